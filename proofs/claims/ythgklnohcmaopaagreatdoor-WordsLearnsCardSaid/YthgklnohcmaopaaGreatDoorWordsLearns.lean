/- For every case and one more learned word WordsLearns returns true and leaves its arguments as they were: the card of the law, where the listed variables of the library are laid as the program's text lays them. -/
import Derived.Test.YthgklnohcmaopaaGreatDoorLq46
import Derived.Test.YthgklnohcmaopaaGreatDoorLq8
namespace Go.Proofs.YthgklnohcmaopaaGreatDoor
open Go Go.ChangeShapes Go.WideShapes Go.ChangeAt Go.RowKit Go.Shelf Go.Lib
open Go.ChangeMaps (open_string shut_string)

theorem laidOut : laidOutB Tryz.prog = true := by kernel_rfl
set_option maxRecDepth 100000 in
theorem learns21_contract (H : Type) (enc : TypeId × Value → H) (W : World) (base : Nat) (args : Array Value) (ds gs : List (DataW H)) (before : List MemPlace)
    (hval : ∀ (j : Nat) t v, Tryz.f4.params[j]? = some t → args[j]? = some v → Value.okWide Tryz.prog W .any base t v)
    (hW : DataW.Whole enc Tryz.prog Tryz.f4.params.toList Rows.wordsLearnsSpec.vars false W args.toList ds gs before)
    (hz : (DataW.weightsEach Tryz.prog (Tryz.f4.params.toList ++ (OpenSpec.ofChange Rows.wordsLearnsSpec).bare.plain.varTypes Tryz.prog) (ds ++ gs)).all (· ≤ reachBytes) = true) (he : Env W) :
    Calls Tryz.prog 4 args W fun e W' => ∃ v, e = .returned v ∧ Rows.wordsLearnsSpec.post enc Tryz.prog Tryz.f4 false true false false W args v W' := by
  have hW' := hW
  obtain ⟨p, q, hA0, hV, rfl, hfz, hnd⟩ := hW
  have hA : DataW.TrodAll enc Tryz.prog W 0 (fun _ => true) true Tryz.f4.params.toList args.toList ds p := hA0
  rw [Tryz.params4] at hA hval hz
  obtain ⟨v0, v1, d0, d1, p0, p1, rfl, rfl, rfl, h0, h1⟩ := trodAll_two hA
  obtain ⟨rfl, rfl⟩ := trodVars_none hV
  obtain ⟨x0, A0, rfl, hat0, ok0, nil0⟩ := open_case (hval 0 _ v0 rfl rfl) h0 hz (j := 0) rfl rfl
  obtain ⟨x1, rfl, ok1⟩ := open_learned (hval 1 _ v1 rfl rfl) h1
  refine (learns21_any x0 A0 x1 W he ok0 ok1 hat0 nil0).mono fun e W' ⟨hr, hg⟩ => ?_
  subst hr
  have hlt : ∀ x ∈ p0 ++ p1, x.block < W.heap.size := fun x hx => by simpa using hW'.lt x (by simpa using hx)
  refine ⟨_, rfl, _, _, _, [], p0 ++ (p1), [], hW', ?_, ?_, ?_, hg.frame _, fun h => by cases h⟩
  · exact trodAll_mk1 (shut_bool Tryz.underlying4 _)
  · exact trodAll_mk2 (Below.trod laidOut (by kernel_rfl) (of_decide_eq_true (by kernel_rfl)) h0 hg (fun x hx => hlt x (by simp [hx]))) (Below.trod laidOut (by kernel_rfl) (of_decide_eq_true (by kernel_rfl)) h1 hg (fun x hx => hlt x (by simp [hx])))
  · rfl
theorem learns21_witness (os : Os) {H : Type} (enc : TypeId × Value → H) :
    (OpenSpec.ofChange Rows.wordsLearnsSpec).preRow enc Tryz.prog Tryz.f4 Rows.wordsLearnsRow.domain false Rows.wordsLearnsRow.laid ((xY0 os).forCall (fun _ _ => 0) ⟨#[], #[.agg #[.slice none 0 0, .int .i64 0, .slice none 0 0, .slice none 0 0, .string ⟨#[]⟩, .slice none 0 0], .agg #[.string ⟨#[]⟩, .string ⟨#[]⟩, .int .i64 0]], []⟩).memory #[.agg #[.slice none 0 0, .int .i64 0, .slice none 0 0, .slice none 0 0, .string ⟨#[]⟩, .slice none 0 0], .agg #[.string ⟨#[]⟩, .string ⟨#[]⟩, .int .i64 0]] := by
  have hw : (DataW.whole enc Tryz.prog ((xY0 os).forCall (fun _ _ => 0) ⟨#[], #[.agg #[.slice none 0 0, .int .i64 0, .slice none 0 0, .slice none 0 0, .string ⟨#[]⟩, .slice none 0 0], .agg #[.string ⟨#[]⟩, .string ⟨#[]⟩, .int .i64 0]], []⟩).memory Tryz.f4.params.toList (OpenSpec.ofChange Rows.wordsLearnsSpec).vars false #[.agg #[.slice none 0 0, .int .i64 0, .slice none 0 0, .slice none 0 0, .string ⟨#[]⟩, .slice none 0 0], .agg #[.string ⟨#[]⟩, .string ⟨#[]⟩, .int .i64 0]].toList 8).map (fun x => (x.1, x.2.1)) =
      some ([.agg [.agg [.nil, .lit (.int .i64 0), .nil, .nil], .lit (.string []), .nil], .agg [.lit (.string []), .lit (.string []), .lit (.int .i64 0)]], []) := by kernel_rfl
  obtain ⟨⟨y1, y2, y3⟩, hx, hx1⟩ := Option.map_eq_some_iff.1 hw
  simp only [Prod.mk.injEq] at hx1
  obtain ⟨rfl, rfl⟩ := hx1
  exact OpenSpec.preRow_of_cond 8 hx (by kernel_rfl) (fun k hk => by cases hk) (by kernel_rfl) (laid_met os _)
set_option maxRecDepth 100000 in
theorem learns21_lifted (os : Os) (started : os.Started) (H : Type) (enc : TypeId × Value → H) (F : Stop.Interp) :
    ReturnsInHanded {} Tryz.checked os 4 .any ((OpenSpec.ofChange Rows.wordsLearnsSpec).preRow enc Tryz.prog Tryz.f4 Rows.wordsLearnsRow.domain false Rows.wordsLearnsRow.laid) (((OpenSpec.ofChange Rows.wordsLearnsSpec).at F).post enc Tryz.prog Tryz.f4 false true false false) := by
  refine returnsInHanded_of_row (C := Tryz.checked) (s := OpenSpec.ofChange Rows.wordsLearnsSpec) own started (by kernel_rfl) Tryz.func4
    (witness_row_atRef (enc := enc) (C := Tryz.checked) false (xY0 os) #[.agg #[.slice none 0 0, .int .i64 0, .slice none 0 0, .slice none 0 0, .string ⟨#[]⟩, .slice none 0 0], .agg #[.string ⟨#[]⟩, .string ⟨#[]⟩, .int .i64 0]] rfl (by kernel_rfl) (by kernel_rfl) (by kernel_rfl) (learns21_witness os enc)) ?_
  intro W base args ds gs before hval hW _ _ hz hL hS _
  exact learns21_contract H enc W base args ds gs before hval hW hz (env_of hL hS)
theorem learns21_f1 : laidOutB Tryz.prog = true := by kernel_rfl
theorem learns21_f2 : mapsRowed Tryz.prog = true := by kernel_rfl
theorem learns21_f3 : (Rows.wordsLearnsRow.inPlace == Tryz.prog.inPlace 4) = true := by kernel_rfl
theorem learns21_f4 : (Rows.wordsLearnsRow.unfollowed == Tryz.prog.unfollowed 4) = true := by kernel_rfl
theorem learns21_f5 : (Rows.wordsLearnsRow.recurses == Tryz.prog.recurses 4) = true := by kernel_rfl
theorem learns21_f6 : (Rows.wordsLearnsRow.named == Tryz.prog.varsNamed 4) = true := by kernel_rfl
theorem learns21_facts : joinedFacts Tryz.prog 4 Tryz.f4 (OpenSpec.ofChange Rows.wordsLearnsSpec).bare Rows.wordsLearnsRow = true := by
  unfold joinedFacts
  rw [learns21_f1, learns21_f2, learns21_f3, learns21_f4, learns21_f5, learns21_f6]
  kernel_rfl
theorem learns21_said : Rows.WordsLearnsSaid :=
  OpenClaim.holds_of_cond 4 Tryz.f4 rfl rfl rfl rfl rfl rfl rfl ⟨rfl, rfl, rfl, rfl, rfl⟩ rfl rfl rfl rfl rfl (by kernel_rfl) Tryz.func4 learns21_facts
    (of_decide_eq_true (by kernel_rfl)) (by unfold Func.isWrapper; first | (rw [if_pos (by decide +kernel)]; kernel_rfl) | (rw [if_neg (by decide +kernel)]; exact ⟨rfl, rfl⟩))
    (fun os started H enc _ F => by rw [OpenClaim.pre_eq_preRow]; exact learns21_lifted os started H enc F)
theorem learns21_plain (f : FuncId) (fn : Func) (hf : Tryz.pinned.checked.prog.funcNamed "henkan/henkanlaw21.WordsLearns" = some f) (hfn : Tryz.pinned.checked.prog.funcs[f]? = some fn) :
    true = Tryz.pinned.checked.prog.looks [] ∧ ∀ (j : Nat) t, fn.params[j]? = some t → Tryz.pinned.checked.prog.wantsStandIn t = false := by
  obtain rfl : f = 4 := Option.some.inj ((show Tryz.prog.funcNamed "henkan/henkanlaw21.WordsLearns" = some 4 by kernel_rfl).symm.trans hf) |>.symm
  obtain rfl : fn = Tryz.f4 := (Option.some.inj (Tryz.func4.symm.trans hfn)).symm
  refine ⟨by kernel_rfl, fun j t ht => ?_⟩
  rw [Tryz.params4] at ht
  have hm : t = 43 ∨ t = 45 := by simpa using Array.mem_of_getElem? ht
  rcases hm with rfl | rfl
  · exact (show Tryz.prog.wantsStandIn 43 = false by kernel_rfl)
  · exact (show Tryz.prog.wantsStandIn 45 = false by kernel_rfl)
/-- The card. -/
theorem learns21_card : Rows.WordsLearnsCardSaid :=
  Claim7.holds_tied_plain_at .later [] _ _ _ _ learns21_said (fun _ h => by cases h) (by kernel_rfl) (fun _ h => by cases h) wordsLearns_row_tie rfl ⟨rfl, rfl⟩ (by kernel_rfl) rfl learns21_plain (by kernel_rfl)
end Go.Proofs.YthgklnohcmaopaaGreatDoor
