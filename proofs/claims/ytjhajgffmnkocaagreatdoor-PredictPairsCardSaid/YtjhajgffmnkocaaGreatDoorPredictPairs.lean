/- For every question PredictPairs returns true and leaves its arguments as they were: the card of the law, where the listed variables of the library are laid as the program's text lays them. -/
import Derived.Test.YtjhajgffmnkocaaGreatDoorPq30
import Derived.Test.YtjhajgffmnkocaaGreatDoorPq7
import Derived.Test.YtjhajgffmnkocaaGreatDoorPrPai
namespace Go.Proofs.YtjhajgffmnkocaaGreatDoor
open Go Go.ChangeShapes Go.WideShapes Go.ChangeAt Go.RowKit Go.Shelf Go.Lib
open Go.ChangeMaps (open_string shut_string)

set_option maxRecDepth 100000 in
theorem pai38_contract (H : Type) (enc : TypeId × Value → H) (W : World) (base : Nat) (args : Array Value) (ds gs : List (DataW H)) (before : List MemPlace)
    (hval : ∀ (j : Nat) t v, Tryz.f8.params[j]? = some t → args[j]? = some v → Value.okWide Tryz.prog W .any base t v)
    (hW : DataW.Whole enc Tryz.prog Tryz.f8.params.toList Rows.predictPairsSpec.vars false W args.toList ds gs before)
    (hz : (DataW.weightsEach Tryz.prog (Tryz.f8.params.toList ++ (OpenSpec.ofChange Rows.predictPairsSpec).bare.plain.varTypes Tryz.prog) (ds ++ gs)).all (· ≤ reachBytes) = true) (he : Env W) :
    Calls Tryz.prog 8 args W fun e W' => ∃ v, e = .returned v ∧ Rows.predictPairsSpec.post enc Tryz.prog Tryz.f8 false true false false W args v W' := by
  have hW' := hW
  obtain ⟨p, q, hA0, hV, rfl, hfz, hnd⟩ := hW
  have hA : DataW.TrodAll enc Tryz.prog W 0 (fun _ => true) true Tryz.f8.params.toList args.toList ds p := hA0
  rw [Tryz.params8] at hA hval hz
  obtain ⟨v0, d0, rfl, rfl, h0⟩ := trodAll_one hA
  obtain ⟨rfl, rfl⟩ := trodVars_none hV
  obtain ⟨x0, A0, rfl, hat0, ok0⟩ := open_ask (hval 0 _ v0 rfl rfl) h0 hz (j := 0) rfl rfl
  refine (pai38_any x0 A0 W he ok0 hat0).mono fun e W' ⟨hr, hg⟩ => ?_
  subst hr
  have hlt : ∀ x ∈ p, x.block < W.heap.size := fun x hx => by simpa using hW'.lt x (by simpa using hx)
  refine ⟨_, rfl, _, _, _, [], p, [], hW', ?_, ?_, ?_, hg.frame _, fun h => by cases h⟩
  · exact trodAll_mk1 (shut_bool Tryz.underlying4 _)
  · exact trodAll_mk1 (Below.trod laidOut (by kernel_rfl) (of_decide_eq_true (by kernel_rfl)) h0 hg (fun x hx => hlt x (by simp [hx])))
  · rfl
theorem pai38_witness (os : Os) {H : Type} (enc : TypeId × Value → H) :
    (OpenSpec.ofChange Rows.predictPairsSpec).preRow enc Tryz.prog Tryz.f8 Rows.predictPairsRow.domain false Rows.predictPairsRow.laid ((yU0 os).forCall (fun _ _ => 0) ⟨#[], #[.agg #[.slice none 0 0, .int .i64 0, .slice none 0 0, .slice none 0 0, .slice none 0 0, .string ⟨#[]⟩, .string ⟨#[]⟩, .int .i64 0]], []⟩).memory #[.agg #[.slice none 0 0, .int .i64 0, .slice none 0 0, .slice none 0 0, .slice none 0 0, .string ⟨#[]⟩, .string ⟨#[]⟩, .int .i64 0]] := by
  have hw : (DataW.whole enc Tryz.prog ((yU0 os).forCall (fun _ _ => 0) ⟨#[], #[.agg #[.slice none 0 0, .int .i64 0, .slice none 0 0, .slice none 0 0, .slice none 0 0, .string ⟨#[]⟩, .string ⟨#[]⟩, .int .i64 0]], []⟩).memory Tryz.f8.params.toList (OpenSpec.ofChange Rows.predictPairsSpec).vars false #[.agg #[.slice none 0 0, .int .i64 0, .slice none 0 0, .slice none 0 0, .slice none 0 0, .string ⟨#[]⟩, .string ⟨#[]⟩, .int .i64 0]].toList 8).map (fun x => (x.1, x.2.1)) =
      some ([.agg [.agg [.nil, .lit (.int .i64 0), .nil, .nil], .nil, .lit (.string []), .lit (.string []), .lit (.int .i64 0)]], []) := by kernel_rfl
  obtain ⟨⟨y1, y2, y3⟩, hx, hx1⟩ := Option.map_eq_some_iff.1 hw
  simp only [Prod.mk.injEq] at hx1
  obtain ⟨rfl, rfl⟩ := hx1
  exact OpenSpec.preRow_of_cond 8 hx (by kernel_rfl) (fun k hk => by cases hk) (by kernel_rfl) (laid_met os _)
set_option maxRecDepth 100000 in
theorem pai38_lifted (os : Os) (started : os.Started) (H : Type) (enc : TypeId × Value → H) (F : Stop.Interp) :
    ReturnsInHanded {} Tryz.checked os 8 .any ((OpenSpec.ofChange Rows.predictPairsSpec).preRow enc Tryz.prog Tryz.f8 Rows.predictPairsRow.domain false Rows.predictPairsRow.laid) (((OpenSpec.ofChange Rows.predictPairsSpec).at F).post enc Tryz.prog Tryz.f8 false true false false) := by
  refine returnsInHanded_of_row (C := Tryz.checked) (s := OpenSpec.ofChange Rows.predictPairsSpec) own started (by kernel_rfl) Tryz.func8
    (witness_row_atRef (enc := enc) (C := Tryz.checked) false (yU0 os) #[.agg #[.slice none 0 0, .int .i64 0, .slice none 0 0, .slice none 0 0, .slice none 0 0, .string ⟨#[]⟩, .string ⟨#[]⟩, .int .i64 0]] rfl (by kernel_rfl) (by kernel_rfl) (by kernel_rfl) (pai38_witness os enc)) ?_
  intro W base args ds gs before hval hW _ _ hz hL hS _
  exact pai38_contract H enc W base args ds gs before hval hW hz (env_of hL hS)
theorem pai38_f1 : laidOutB Tryz.prog = true := by kernel_rfl
theorem pai38_f2 : mapsRowed Tryz.prog = true := by kernel_rfl
theorem pai38_f3 : (Rows.predictPairsRow.inPlace == Tryz.prog.inPlace 8) = true := by kernel_rfl
theorem pai38_f4 : (Rows.predictPairsRow.unfollowed == Tryz.prog.unfollowed 8) = true := by kernel_rfl
theorem pai38_f5 : (Rows.predictPairsRow.recurses == Tryz.prog.recurses 8) = true := by kernel_rfl
theorem pai38_f6 : (Rows.predictPairsRow.named == Tryz.prog.varsNamed 8) = true := by kernel_rfl
theorem pai38_facts : joinedFacts Tryz.prog 8 Tryz.f8 (OpenSpec.ofChange Rows.predictPairsSpec).bare Rows.predictPairsRow = true := by
  unfold joinedFacts
  rw [pai38_f1, pai38_f2, pai38_f3, pai38_f4, pai38_f5, pai38_f6]
  kernel_rfl
theorem pai38_said : Rows.PredictPairsSaid :=
  OpenClaim.holds_of_cond 8 Tryz.f8 rfl rfl rfl rfl rfl rfl rfl ⟨rfl, rfl, rfl, rfl, rfl⟩ rfl rfl rfl rfl rfl (by kernel_rfl) Tryz.func8 pai38_facts
    (of_decide_eq_true (by kernel_rfl)) (by unfold Func.isWrapper; first | (rw [if_pos (by decide +kernel)]; kernel_rfl) | (rw [if_neg (by decide +kernel)]; exact ⟨rfl, rfl⟩))
    (fun os started H enc _ F => by rw [OpenClaim.pre_eq_preRow]; exact pai38_lifted os started H enc F)
theorem pai38_plain (f : FuncId) (fn : Func) (hf : Tryz.pinned.checked.prog.funcNamed "henkan/henkanlaw38.PredictPairs" = some f) (hfn : Tryz.pinned.checked.prog.funcs[f]? = some fn) :
    true = Tryz.pinned.checked.prog.looks [] ∧ ∀ (j : Nat) t, fn.params[j]? = some t → Tryz.pinned.checked.prog.wantsStandIn t = false := by
  obtain rfl : f = 8 := Option.some.inj ((show Tryz.prog.funcNamed "henkan/henkanlaw38.PredictPairs" = some 8 by kernel_rfl).symm.trans hf) |>.symm
  obtain rfl : fn = Tryz.f8 := (Option.some.inj (Tryz.func8.symm.trans hfn)).symm
  refine ⟨by kernel_rfl, fun j t ht => ?_⟩
  rw [Tryz.params8] at ht
  have hm : t = 29 := by simpa using Array.mem_of_getElem? ht
  subst hm
  exact (show Tryz.prog.wantsStandIn 29 = false by kernel_rfl)
/-- The card. -/
theorem pai38_card : Rows.PredictPairsCardSaid :=
  Claim7.holds_tied_plain_at .later [] _ _ _ _ pai38_said (fun _ h => by cases h) (by kernel_rfl) (fun _ h => by cases h) predictPairs_row_tie rfl ⟨rfl, rfl⟩ (by kernel_rfl) rfl pai38_plain (by kernel_rfl)
end Go.Proofs.YtjhajgffmnkocaaGreatDoor
