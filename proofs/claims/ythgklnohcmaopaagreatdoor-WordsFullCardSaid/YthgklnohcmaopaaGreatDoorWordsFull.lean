/- For every number WordsFull returns true and leaves its arguments as they were: the card of the law, where the listed variables of the library are laid as the program's text lays them. -/
import Derived.Test.YthgklnohcmaopaaGreatDoorLq8
import Derived.Test.YthgklnohcmaopaaGreatDoorFul21L
import Derived.Test.YthgklnohcmaopaaGreatDoorLq9
namespace Go.Proofs.YthgklnohcmaopaaGreatDoor
open Go Go.ChangeShapes Go.WideShapes Go.ChangeAt Go.RowKit Go.Shelf Go.Lib
open Go.ChangeMaps (open_string shut_string)

theorem laidOut : laidOutB Tryz.prog = true := by kernel_rfl
set_option maxRecDepth 100000 in
theorem full21_contract (H : Type) (enc : TypeId × Value → H) (W : World) (base : Nat) (args : Array Value) (ds gs : List (DataW H)) (before : List MemPlace)
    (hval : ∀ (j : Nat) t v, Tryz.f3.params[j]? = some t → args[j]? = some v → Value.okWide Tryz.prog W .any base t v)
    (hW : DataW.Whole enc Tryz.prog Tryz.f3.params.toList Rows.wordsFullSpec.vars false W args.toList ds gs before)
    (hz : (DataW.weightsEach Tryz.prog (Tryz.f3.params.toList ++ (OpenSpec.ofChange Rows.wordsFullSpec).bare.plain.varTypes Tryz.prog) (ds ++ gs)).all (· ≤ reachBytes) = true) (he : Env W) :
    Calls Tryz.prog 3 args W fun e W' => ∃ v, e = .returned v ∧ Rows.wordsFullSpec.post enc Tryz.prog Tryz.f3 false true false false W args v W' := by
  have hW' := hW
  obtain ⟨p, q, hA0, hV, rfl, hfz, hnd⟩ := hW
  have hA : DataW.TrodAll enc Tryz.prog W 0 (fun _ => true) true Tryz.f3.params.toList args.toList ds p := hA0
  rw [Tryz.params3] at hA hval hz
  obtain ⟨v0, d0, rfl, rfl, h0⟩ := trodAll_one hA
  obtain ⟨rfl, rfl⟩ := trodVars_none hV
  obtain ⟨x0, rfl, hd0, hp0, ok0⟩ := open_int Tryz.underlying5 (hval 0 _ v0 rfl rfl) h0
  refine (full21_int x0 W he ok0).mono fun e W' ⟨hr, hg⟩ => ?_
  subst hr
  have hlt : ∀ x ∈ p, x.block < W.heap.size := fun x hx => by simpa using hW'.lt x (by simpa using hx)
  refine ⟨_, rfl, _, _, _, [], p, [], hW', ?_, ?_, ?_, hg.frame _, fun h => by cases h⟩
  · exact trodAll_mk1 (shut_bool Tryz.underlying4 _)
  · exact trodAll_mk1 (Below.trod laidOut (by kernel_rfl) (of_decide_eq_true (by kernel_rfl)) h0 hg (fun x hx => hlt x (by simp [hx])))
  · rfl
theorem full21_witness (os : Os) {H : Type} (enc : TypeId × Value → H) :
    (OpenSpec.ofChange Rows.wordsFullSpec).preRow enc Tryz.prog Tryz.f3 Rows.wordsFullRow.domain false Rows.wordsFullRow.laid ((xY0 os).forCall (fun _ _ => 0) ⟨#[], #[.int .u8 0], []⟩).memory #[.int .u8 0] := by
  have hw : (DataW.whole enc Tryz.prog ((xY0 os).forCall (fun _ _ => 0) ⟨#[], #[.int .u8 0], []⟩).memory Tryz.f3.params.toList (OpenSpec.ofChange Rows.wordsFullSpec).vars false #[.int .u8 0].toList 8).map (fun x => (x.1, x.2.1)) =
      some ([.lit (.int .u8 0)], []) := by kernel_rfl
  obtain ⟨⟨y1, y2, y3⟩, hx, hx1⟩ := Option.map_eq_some_iff.1 hw
  simp only [Prod.mk.injEq] at hx1
  obtain ⟨rfl, rfl⟩ := hx1
  exact OpenSpec.preRow_of_cond 8 hx (by kernel_rfl) (fun k hk => by cases hk) (by kernel_rfl) (laid_met os _)
set_option maxRecDepth 100000 in
theorem full21_lifted (os : Os) (started : os.Started) (H : Type) (enc : TypeId × Value → H) (F : Stop.Interp) :
    ReturnsInHanded {} Tryz.checked os 3 .any ((OpenSpec.ofChange Rows.wordsFullSpec).preRow enc Tryz.prog Tryz.f3 Rows.wordsFullRow.domain false Rows.wordsFullRow.laid) (((OpenSpec.ofChange Rows.wordsFullSpec).at F).post enc Tryz.prog Tryz.f3 false true false false) := by
  refine returnsInHanded_of_row (C := Tryz.checked) (s := OpenSpec.ofChange Rows.wordsFullSpec) own started (by kernel_rfl) Tryz.func3
    (witness_row_atRef (enc := enc) (C := Tryz.checked) false (xY0 os) #[.int .u8 0] rfl (by kernel_rfl) (by kernel_rfl) (by kernel_rfl) (full21_witness os enc)) ?_
  intro W base args ds gs before hval hW _ _ hz hL hS _
  exact full21_contract H enc W base args ds gs before hval hW hz (env_of hL hS)
theorem full21_f1 : laidOutB Tryz.prog = true := by kernel_rfl
theorem full21_f2 : mapsRowed Tryz.prog = true := by kernel_rfl
theorem full21_f3 : (Rows.wordsFullRow.inPlace == Tryz.prog.inPlace 3) = true := by kernel_rfl
theorem full21_f4 : (Rows.wordsFullRow.unfollowed == Tryz.prog.unfollowed 3) = true := by kernel_rfl
theorem full21_f5 : (Rows.wordsFullRow.recurses == Tryz.prog.recurses 3) = true := by kernel_rfl
theorem full21_f6 : (Rows.wordsFullRow.named == Tryz.prog.varsNamed 3) = true := by kernel_rfl
theorem full21_facts : joinedFacts Tryz.prog 3 Tryz.f3 (OpenSpec.ofChange Rows.wordsFullSpec).bare Rows.wordsFullRow = true := by
  unfold joinedFacts
  rw [full21_f1, full21_f2, full21_f3, full21_f4, full21_f5, full21_f6]
  kernel_rfl
theorem full21_said : Rows.WordsFullSaid :=
  OpenClaim.holds_of_cond 3 Tryz.f3 rfl rfl rfl rfl rfl rfl rfl ⟨rfl, rfl, rfl, rfl, rfl⟩ rfl rfl rfl rfl rfl (by kernel_rfl) Tryz.func3 full21_facts
    (of_decide_eq_true (by kernel_rfl)) (by unfold Func.isWrapper; first | (rw [if_pos (by decide +kernel)]; kernel_rfl) | (rw [if_neg (by decide +kernel)]; exact ⟨rfl, rfl⟩))
    (fun os started H enc _ F => by rw [OpenClaim.pre_eq_preRow]; exact full21_lifted os started H enc F)
theorem full21_plain (f : FuncId) (fn : Func) (hf : Tryz.pinned.checked.prog.funcNamed "henkan/henkanlaw21.WordsFull" = some f) (hfn : Tryz.pinned.checked.prog.funcs[f]? = some fn) :
    true = Tryz.pinned.checked.prog.looks [] ∧ ∀ (j : Nat) t, fn.params[j]? = some t → Tryz.pinned.checked.prog.wantsStandIn t = false := by
  obtain rfl : f = 3 := Option.some.inj ((show Tryz.prog.funcNamed "henkan/henkanlaw21.WordsFull" = some 3 by kernel_rfl).symm.trans hf) |>.symm
  obtain rfl : fn = Tryz.f3 := (Option.some.inj (Tryz.func3.symm.trans hfn)).symm
  refine ⟨by kernel_rfl, fun j t ht => ?_⟩
  rw [Tryz.params3] at ht
  have hm : t = 5 := by simpa using Array.mem_of_getElem? ht
  subst hm
  exact (show Tryz.prog.wantsStandIn 5 = false by kernel_rfl)
/-- The card. -/
theorem full21_card : Rows.WordsFullCardSaid :=
  Claim7.holds_tied_plain_at .later [] _ _ _ _ full21_said (fun _ h => by cases h) (by kernel_rfl) (fun _ h => by cases h) wordsFull_row_tie rfl ⟨rfl, rfl⟩ (by kernel_rfl) rfl full21_plain (by kernel_rfl)
end Go.Proofs.YthgklnohcmaopaaGreatDoor
