/- For every source of a dictionary BuilderTexts returns true and leaves its argument as it was: the card of the law, where the listed variables of the library and of the program are laid as the program's text lays them. -/
import Derived.Test.YthgklnohcmaopaaGreatDoorTq21
import Derived.Test.YthgklnohcmaopaaGreatDoorTxs18L
namespace Go.Proofs.YthgklnohcmaopaaGreatDoor
open Go Go.ChangeShapes Go.WideShapes Go.ChangeAt Go.RowKit Go.Shelf Go.Lib
open Go.ChangeMaps (open_string shut_string)

theorem laidOut : laidOutB Tryz.prog = true := by kernel_rfl
set_option maxRecDepth 100000 in
theorem texts18_contract (H : Type) (enc : TypeId × Value → H) (W : World) (base : Nat) (args : Array Value) (ds gs : List (DataW H)) (before : List MemPlace)
    (hval : ∀ (j : Nat) t v, Tryz.f6.params[j]? = some t → args[j]? = some v → Value.okWide Tryz.prog W .any base t v)
    (hW : DataW.Whole enc Tryz.prog Tryz.f6.params.toList Rows.builderTextsSpec.vars false W args.toList ds gs before)
    (hz : (DataW.weightsEach Tryz.prog (Tryz.f6.params.toList ++ (OpenSpec.ofChange Rows.builderTextsSpec).bare.plain.varTypes Tryz.prog) (ds ++ gs)).all (· ≤ reachBytes) = true) (he : uF0 W) :
    Calls Tryz.prog 6 args W fun e W' => ∃ v, e = .returned v ∧ Rows.builderTextsSpec.post enc Tryz.prog Tryz.f6 false true false false W args v W' := by
  have hW' := hW
  obtain ⟨p, q, hA0, hV, rfl, hfz, hnd⟩ := hW
  have hA : DataW.TrodAll enc Tryz.prog W 0 (fun _ => true) true Tryz.f6.params.toList args.toList ds p := hA0
  rw [Tryz.params6] at hA hval hz
  obtain ⟨v0, d0, rfl, rfl, h0⟩ := trodAll_one hA
  obtain ⟨rfl, rfl⟩ := trodVars_none hV
  obtain ⟨x0, A0, rfl, hat0, ok0, nil0⟩ := open_src (hval 0 _ v0 rfl rfl) h0 hz (j := 0) rfl rfl
  refine (texts18_any x0 A0 W he ok0 hat0).mono fun e W' ⟨hr, hg⟩ => ?_
  subst hr
  have hlt : ∀ x ∈ p, x.block < W.heap.size := fun x hx => by simpa using hW'.lt x (by simpa using hx)
  refine ⟨_, rfl, _, _, _, [], p, [], hW', ?_, ?_, ?_, hg.frame _, fun h => by cases h⟩
  · exact trodAll_mk1 (shut_bool Tryz.underlying4 _)
  · exact trodAll_mk1 (Below.trod laidOut (by kernel_rfl) (of_decide_eq_true (by kernel_rfl)) h0 hg (fun x hx => hlt x (by simp [hx])))
  · rfl
theorem texts18_witness (os : Os) {H : Type} (enc : TypeId × Value → H) :
    (OpenSpec.ofChange Rows.builderTextsSpec).preRow enc Tryz.prog Tryz.f6 Rows.builderTextsRow.domain false Rows.builderTextsRow.laid ((lZ0 os).forCall (fun _ _ => 0) ⟨#[], #[.agg #[.slice none 0 0, .int .i64 0, .slice none 0 0, .slice none 0 0]], []⟩).memory #[.agg #[.slice none 0 0, .int .i64 0, .slice none 0 0, .slice none 0 0]] := by
  have hw : (DataW.whole enc Tryz.prog ((lZ0 os).forCall (fun _ _ => 0) ⟨#[], #[.agg #[.slice none 0 0, .int .i64 0, .slice none 0 0, .slice none 0 0]], []⟩).memory Tryz.f6.params.toList (OpenSpec.ofChange Rows.builderTextsSpec).vars false #[.agg #[.slice none 0 0, .int .i64 0, .slice none 0 0, .slice none 0 0]].toList 8).map (fun x => (x.1, x.2.1)) =
      some ([.agg [.nil, .lit (.int .i64 0), .nil, .nil]], []) := by kernel_rfl
  obtain ⟨⟨y1, y2, y3⟩, hx, hx1⟩ := Option.map_eq_some_iff.1 hw
  simp only [Prod.mk.injEq] at hx1
  obtain ⟨rfl, rfl⟩ := hx1
  exact OpenSpec.preRow_of_cond 8 hx (by kernel_rfl) (fun k hk => by cases hk) (by kernel_rfl) (laid9_met os _)
set_option maxRecDepth 100000 in
theorem texts18_lifted (os : Os) (started : os.Started) (H : Type) (enc : TypeId × Value → H) (F : Stop.Interp) :
    ReturnsInHanded {} Tryz.checked os 6 .any ((OpenSpec.ofChange Rows.builderTextsSpec).preRow enc Tryz.prog Tryz.f6 Rows.builderTextsRow.domain false Rows.builderTextsRow.laid) (((OpenSpec.ofChange Rows.builderTextsSpec).at F).post enc Tryz.prog Tryz.f6 false true false false) := by
  refine returnsInHanded_of_row (C := Tryz.checked) (s := OpenSpec.ofChange Rows.builderTextsSpec) own started (by kernel_rfl) Tryz.func6
    (witness_row_atRef (enc := enc) (C := Tryz.checked) false (lZ0 os) #[.agg #[.slice none 0 0, .int .i64 0, .slice none 0 0, .slice none 0 0]] rfl (by kernel_rfl) (by kernel_rfl) (by kernel_rfl) (texts18_witness os enc)) ?_
  intro W base args ds gs before hval hW _ _ hz hL hS _
  exact texts18_contract H enc W base args ds gs before hval hW hz (env9_of hL hS)
theorem texts18_f1 : laidOutB Tryz.prog = true := by kernel_rfl
theorem texts18_f2 : mapsRowed Tryz.prog = true := by kernel_rfl
theorem texts18_f3 : (Rows.builderTextsRow.inPlace == Tryz.prog.inPlace 6) = true := by kernel_rfl
theorem texts18_f4 : (Rows.builderTextsRow.unfollowed == Tryz.prog.unfollowed 6) = true := by kernel_rfl
theorem texts18_f5 : (Rows.builderTextsRow.recurses == Tryz.prog.recurses 6) = true := by kernel_rfl
theorem texts18_f6 : (Rows.builderTextsRow.named == Tryz.prog.varsNamed 6) = true := by kernel_rfl
theorem texts18_facts : joinedFacts Tryz.prog 6 Tryz.f6 (OpenSpec.ofChange Rows.builderTextsSpec).bare Rows.builderTextsRow = true := by
  unfold joinedFacts
  rw [texts18_f1, texts18_f2, texts18_f3, texts18_f4, texts18_f5, texts18_f6]
  kernel_rfl
theorem texts18_said : Rows.BuilderTextsSaid :=
  OpenClaim.holds_of_cond 6 Tryz.f6 rfl rfl rfl rfl rfl rfl rfl ⟨rfl, rfl, rfl, rfl, rfl⟩ rfl rfl rfl rfl rfl (by kernel_rfl) Tryz.func6 texts18_facts
    (of_decide_eq_true (by kernel_rfl)) (by unfold Func.isWrapper; first | (rw [if_pos (by decide +kernel)]; kernel_rfl) | (rw [if_neg (by decide +kernel)]; exact ⟨rfl, rfl⟩))
    (fun os started H enc _ F => by rw [OpenClaim.pre_eq_preRow]; exact texts18_lifted os started H enc F)
theorem texts18_plain (f : FuncId) (fn : Func) (hf : Tryz.pinned.checked.prog.funcNamed "henkan/henkanlaw18.BuilderTexts" = some f) (hfn : Tryz.pinned.checked.prog.funcs[f]? = some fn) :
    true = Tryz.pinned.checked.prog.looks [] ∧ ∀ (j : Nat) t, fn.params[j]? = some t → Tryz.pinned.checked.prog.wantsStandIn t = false := by
  obtain rfl : f = 6 := Option.some.inj ((show Tryz.prog.funcNamed "henkan/henkanlaw18.BuilderTexts" = some 6 by kernel_rfl).symm.trans hf) |>.symm
  obtain rfl : fn = Tryz.f6 := (Option.some.inj (Tryz.func6.symm.trans hfn)).symm
  refine ⟨by kernel_rfl, fun j t ht => ?_⟩
  rw [Tryz.params6] at ht
  have hm : t = 26 := by simpa using Array.mem_of_getElem? ht
  subst hm
  exact (show Tryz.prog.wantsStandIn 26 = false by kernel_rfl)
/-- The card. -/
theorem texts18_card : Rows.BuilderTextsCardSaid :=
  Claim7.holds_tied_plain_at .later [] _ _ _ _ texts18_said (fun _ h => by cases h) (by kernel_rfl) (fun _ h => by cases h) builderTexts_row_tie rfl ⟨rfl, rfl⟩ (by kernel_rfl) rfl texts18_plain (by kernel_rfl)
end Go.Proofs.YthgklnohcmaopaaGreatDoor
