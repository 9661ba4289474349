/- DictKnown, which has no arguments, returns true: the card of the law, where the listed variables of the library are laid as the program's text lays them. -/
import Derived.Test.YtheiocndipepaaaGreatDoorKq15
import Derived.Test.YtheiocndipepaaaGreatDoorKq18
import Derived.Test.YtheiocndipepaaaGreatDoorKn19L
namespace Go.Proofs.YtheiocndipepaaaGreatDoor
open Go Go.ChangeShapes Go.WideShapes Go.ChangeAt Go.RowKit Go.Shelf Go.Lib
open Go.ChangeMaps (open_string shut_string)

set_option maxRecDepth 100000 in
theorem yZ (H : Type) (enc : TypeId × Value → H) (W : World) (base : Nat) (args : Array Value) (ds gs : List (DataW H)) (before : List MemPlace)
    (hval : ∀ (j : Nat) t v, Tryz.f7.params[j]? = some t → args[j]? = some v → Value.okWide Tryz.prog W .any base t v)
    (hW : DataW.Whole enc Tryz.prog Tryz.f7.params.toList Rows.dictKnownSpec.vars false W args.toList ds gs before)
    (hz : (DataW.weightsEach Tryz.prog (Tryz.f7.params.toList ++ (OpenSpec.ofChange Rows.dictKnownSpec).bare.plain.varTypes Tryz.prog) (ds ++ gs)).all (· ≤ reachBytes) = true) (he : Env W) :
    Calls Tryz.prog 7 args W fun e W' => ∃ v, e = .returned v ∧ Rows.dictKnownSpec.post enc Tryz.prog Tryz.f7 false true false false W args v W' := by
  have hW' := hW
  obtain ⟨p, q, hA0, hV, rfl, hfz, hnd⟩ := hW
  have hA : DataW.TrodAll enc Tryz.prog W 0 (fun _ => true) true Tryz.f7.params.toList args.toList ds p := hA0
  rw [Tryz.params7] at hA hval hz
  obtain ⟨rfl, rfl, rfl⟩ := trodAll_none hA
  obtain ⟨rfl, rfl⟩ := trodVars_none hV
  refine (qE0 W he).mono fun e W' ⟨hr, hg⟩ => ?_
  subst hr
  refine ⟨_, rfl, _, _, _, [], [], [], hW', ?_, ?_, ?_, hg.frame _, fun h => by cases h⟩
  · exact trodAll_mk1 (shut_bool Tryz.underlying4 _)
  · exact trodAll_mk0
  · rfl
theorem dD0 (os : Os) {H : Type} (enc : TypeId × Value → H) :
    (OpenSpec.ofChange Rows.dictKnownSpec).preRow enc Tryz.prog Tryz.f7 Rows.dictKnownRow.domain false Rows.dictKnownRow.laid ((dW os).forCall (fun _ _ => 0) ⟨#[], #[], []⟩).memory #[] := by
  have hw : (DataW.whole enc Tryz.prog ((dW os).forCall (fun _ _ => 0) ⟨#[], #[], []⟩).memory Tryz.f7.params.toList (OpenSpec.ofChange Rows.dictKnownSpec).vars false #[].toList 8).map (fun x => (x.1, x.2.1)) =
      some ([], []) := by kernel_rfl
  obtain ⟨⟨y1, y2, y3⟩, hx, hx1⟩ := Option.map_eq_some_iff.1 hw
  simp only [Prod.mk.injEq] at hx1
  obtain ⟨rfl, rfl⟩ := hx1
  exact OpenSpec.preRow_of_cond 8 hx (by kernel_rfl) (fun k hk => by cases hk) (by kernel_rfl) (vG os _)
set_option maxRecDepth 100000 in
theorem dN0 (os : Os) (started : os.Started) (H : Type) (enc : TypeId × Value → H) (F : Stop.Interp) :
    ReturnsInHanded {} Tryz.checked os 7 .any ((OpenSpec.ofChange Rows.dictKnownSpec).preRow enc Tryz.prog Tryz.f7 Rows.dictKnownRow.domain false Rows.dictKnownRow.laid) (((OpenSpec.ofChange Rows.dictKnownSpec).at F).post enc Tryz.prog Tryz.f7 false true false false) := by
  refine returnsInHanded_of_row (C := Tryz.checked) (s := OpenSpec.ofChange Rows.dictKnownSpec) own started (by kernel_rfl) Tryz.func7
    (witness_row_atRef (enc := enc) (C := Tryz.checked) false (dW os) #[] rfl (by kernel_rfl) (by kernel_rfl) (by kernel_rfl) (dD0 os enc)) ?_
  intro W base args ds gs before hval hW _ _ hz hL hS _
  exact yZ H enc W base args ds gs before hval hW hz (mB0 hL hS)
theorem xW0 : laidOutB Tryz.prog = true := by kernel_rfl
theorem xC0 : mapsRowed Tryz.prog = true := by kernel_rfl
theorem wA0 : (Rows.dictKnownRow.inPlace == Tryz.prog.inPlace 7) = true := by kernel_rfl
theorem uJ0 : (Rows.dictKnownRow.unfollowed == Tryz.prog.unfollowed 7) = true := by kernel_rfl
theorem wB0 : (Rows.dictKnownRow.recurses == Tryz.prog.recurses 7) = true := by kernel_rfl
theorem wW0 : (Rows.dictKnownRow.named == Tryz.prog.varsNamed 7) = true := by kernel_rfl
theorem jC0 : joinedFacts Tryz.prog 7 Tryz.f7 (OpenSpec.ofChange Rows.dictKnownSpec).bare Rows.dictKnownRow = true := by
  unfold joinedFacts
  rw [xW0, xC0, wA0, uJ0, wB0, wW0]
  kernel_rfl
theorem lW0 : Rows.DictKnownSaid :=
  OpenClaim.holds_of_cond 7 Tryz.f7 rfl rfl rfl rfl rfl rfl rfl ⟨rfl, rfl, rfl, rfl, rfl⟩ rfl rfl rfl rfl rfl (by kernel_rfl) Tryz.func7 jC0
    (of_decide_eq_true (by kernel_rfl)) (by unfold Func.isWrapper; first | (rw [if_pos (by decide +kernel)]; kernel_rfl) | (rw [if_neg (by decide +kernel)]; exact ⟨rfl, rfl⟩))
    (fun os started H enc _ F => by rw [OpenClaim.pre_eq_preRow]; exact dN0 os started H enc F)
theorem iN0 (f : FuncId) (fn : Func) (hf : Tryz.pinned.checked.prog.funcNamed "henkan/henkanlaw19.DictKnown" = some f) (hfn : Tryz.pinned.checked.prog.funcs[f]? = some fn) :
    true = Tryz.pinned.checked.prog.looks [] ∧ ∀ (j : Nat) t, fn.params[j]? = some t → Tryz.pinned.checked.prog.wantsStandIn t = false := by
  obtain rfl : f = 7 := Option.some.inj ((show Tryz.prog.funcNamed "henkan/henkanlaw19.DictKnown" = some 7 by kernel_rfl).symm.trans hf) |>.symm
  obtain rfl : fn = Tryz.f7 := (Option.some.inj (Tryz.func7.symm.trans hfn)).symm
  refine ⟨by kernel_rfl, fun j t ht => ?_⟩
  rw [Tryz.params7] at ht
  simp at ht
/-- The card. -/
theorem known19_card : Rows.DictKnownCardSaid :=
  Claim7.holds_tied_plain_at .later [] _ _ _ _ lW0 (fun _ h => by cases h) (by kernel_rfl) (fun _ h => by cases h) dictKnown_row_tie rfl ⟨rfl, rfl⟩ (by kernel_rfl) rfl iN0 (by kernel_rfl)
end Go.Proofs.YtheiocndipepaaaGreatDoor
