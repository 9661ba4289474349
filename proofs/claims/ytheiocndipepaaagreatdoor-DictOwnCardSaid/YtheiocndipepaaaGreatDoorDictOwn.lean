/- For every source of a dictionary DictOwn returns true and leaves its arguments as they were: the card of the law, where the listed variables of the library are laid as the program's text lays them. -/
import Derived.Test.YtheiocndipepaaaGreatDoorKq29
import Derived.Test.YtheiocndipepaaaGreatDoorKq18
import Derived.Test.YtheiocndipepaaaGreatDoorOw19L
namespace Go.Proofs.YtheiocndipepaaaGreatDoor
open Go Go.ChangeShapes Go.WideShapes Go.ChangeAt Go.RowKit Go.Shelf Go.Lib
open Go.ChangeMaps (open_string shut_string)

set_option maxRecDepth 100000 in
theorem dS0 (H : Type) (enc : TypeId × Value → H) (W : World) (base : Nat) (args : Array Value) (ds gs : List (DataW H)) (before : List MemPlace)
    (hval : ∀ (j : Nat) t v, Tryz.f5.params[j]? = some t → args[j]? = some v → Value.okWide Tryz.prog W .any base t v)
    (hW : DataW.Whole enc Tryz.prog Tryz.f5.params.toList Rows.dictOwnSpec.vars false W args.toList ds gs before)
    (hz : (DataW.weightsEach Tryz.prog (Tryz.f5.params.toList ++ (OpenSpec.ofChange Rows.dictOwnSpec).bare.plain.varTypes Tryz.prog) (ds ++ gs)).all (· ≤ reachBytes) = true) (he : Env W) :
    Calls Tryz.prog 5 args W fun e W' => ∃ v, e = .returned v ∧ Rows.dictOwnSpec.post enc Tryz.prog Tryz.f5 false true false false W args v W' := by
  have hW' := hW
  obtain ⟨p, q, hA0, hV, rfl, hfz, hnd⟩ := hW
  have hA : DataW.TrodAll enc Tryz.prog W 0 (fun _ => true) true Tryz.f5.params.toList args.toList ds p := hA0
  rw [Tryz.params5] at hA hval hz
  obtain ⟨v0, d0, rfl, rfl, h0⟩ := trodAll_one hA
  obtain ⟨rfl, rfl⟩ := trodVars_none hV
  obtain ⟨x0, A0, rfl, hat0, ok0, nil0⟩ := zW (hval 0 _ v0 rfl rfl) h0 hz (j := 0) rfl rfl
  refine (aR1 x0 A0 W he ok0 hat0).mono fun e W' ⟨hr, hg⟩ => ?_
  subst hr
  have hlt : ∀ x ∈ p, x.block < W.heap.size := fun x hx => by simpa using hW'.lt x (by simpa using hx)
  refine ⟨_, rfl, _, _, _, [], p, [], hW', ?_, ?_, ?_, hg.frame _, fun h => by cases h⟩
  · exact trodAll_mk1 (shut_bool Tryz.underlying4 _)
  · exact trodAll_mk1 (Below.trod pM (by kernel_rfl) (of_decide_eq_true (by kernel_rfl)) h0 hg (fun x hx => hlt x (by simp [hx])))
  · rfl
theorem hT0 (os : Os) {H : Type} (enc : TypeId × Value → H) :
    (OpenSpec.ofChange Rows.dictOwnSpec).preRow enc Tryz.prog Tryz.f5 Rows.dictOwnRow.domain false Rows.dictOwnRow.laid ((dW os).forCall (fun _ _ => 0) ⟨#[], #[.agg #[.slice none 0 0, .int .i64 0, .slice none 0 0, .slice none 0 0]], []⟩).memory #[.agg #[.slice none 0 0, .int .i64 0, .slice none 0 0, .slice none 0 0]] := by
  have hw : (DataW.whole enc Tryz.prog ((dW os).forCall (fun _ _ => 0) ⟨#[], #[.agg #[.slice none 0 0, .int .i64 0, .slice none 0 0, .slice none 0 0]], []⟩).memory Tryz.f5.params.toList (OpenSpec.ofChange Rows.dictOwnSpec).vars false #[.agg #[.slice none 0 0, .int .i64 0, .slice none 0 0, .slice none 0 0]].toList 8).map (fun x => (x.1, x.2.1)) =
      some ([.agg [.nil, .lit (.int .i64 0), .nil, .nil]], []) := by kernel_rfl
  obtain ⟨⟨y1, y2, y3⟩, hx, hx1⟩ := Option.map_eq_some_iff.1 hw
  simp only [Prod.mk.injEq] at hx1
  obtain ⟨rfl, rfl⟩ := hx1
  exact OpenSpec.preRow_of_cond 8 hx (by kernel_rfl) (fun k hk => by cases hk) (by kernel_rfl) (vG os _)
set_option maxRecDepth 100000 in
theorem jV0 (os : Os) (started : os.Started) (H : Type) (enc : TypeId × Value → H) (F : Stop.Interp) :
    ReturnsInHanded {} Tryz.checked os 5 .any ((OpenSpec.ofChange Rows.dictOwnSpec).preRow enc Tryz.prog Tryz.f5 Rows.dictOwnRow.domain false Rows.dictOwnRow.laid) (((OpenSpec.ofChange Rows.dictOwnSpec).at F).post enc Tryz.prog Tryz.f5 false true false false) := by
  refine returnsInHanded_of_row (C := Tryz.checked) (s := OpenSpec.ofChange Rows.dictOwnSpec) own started (by kernel_rfl) Tryz.func5
    (witness_row_atRef (enc := enc) (C := Tryz.checked) false (dW os) #[.agg #[.slice none 0 0, .int .i64 0, .slice none 0 0, .slice none 0 0]] rfl (by kernel_rfl) (by kernel_rfl) (by kernel_rfl) (hT0 os enc)) ?_
  intro W base args ds gs before hval hW _ _ hz hL hS _
  exact dS0 H enc W base args ds gs before hval hW hz (mB0 hL hS)
theorem eX1 : laidOutB Tryz.prog = true := by kernel_rfl
theorem hD1 : mapsRowed Tryz.prog = true := by kernel_rfl
theorem gZ1 : (Rows.dictOwnRow.inPlace == Tryz.prog.inPlace 5) = true := by kernel_rfl
theorem kL1 : (Rows.dictOwnRow.unfollowed == Tryz.prog.unfollowed 5) = true := by kernel_rfl
theorem fT1 : (Rows.dictOwnRow.recurses == Tryz.prog.recurses 5) = true := by kernel_rfl
theorem iG1 : (Rows.dictOwnRow.named == Tryz.prog.varsNamed 5) = true := by kernel_rfl
theorem nQ0 : joinedFacts Tryz.prog 5 Tryz.f5 (OpenSpec.ofChange Rows.dictOwnSpec).bare Rows.dictOwnRow = true := by
  unfold joinedFacts
  rw [eX1, hD1, gZ1, kL1, fT1, iG1]
  kernel_rfl
theorem xE0 : Rows.DictOwnSaid :=
  OpenClaim.holds_of_cond 5 Tryz.f5 rfl rfl rfl rfl rfl rfl rfl ⟨rfl, rfl, rfl, rfl, rfl⟩ rfl rfl rfl rfl rfl (by kernel_rfl) Tryz.func5 nQ0
    (of_decide_eq_true (by kernel_rfl)) (by unfold Func.isWrapper; first | (rw [if_pos (by decide +kernel)]; kernel_rfl) | (rw [if_neg (by decide +kernel)]; exact ⟨rfl, rfl⟩))
    (fun os started H enc _ F => by rw [OpenClaim.pre_eq_preRow]; exact jV0 os started H enc F)
theorem nX0 (f : FuncId) (fn : Func) (hf : Tryz.pinned.checked.prog.funcNamed "henkan/henkanlaw19.DictOwn" = some f) (hfn : Tryz.pinned.checked.prog.funcs[f]? = some fn) :
    true = Tryz.pinned.checked.prog.looks [] ∧ ∀ (j : Nat) t, fn.params[j]? = some t → Tryz.pinned.checked.prog.wantsStandIn t = false := by
  obtain rfl : f = 5 := Option.some.inj ((show Tryz.prog.funcNamed "henkan/henkanlaw19.DictOwn" = some 5 by kernel_rfl).symm.trans hf) |>.symm
  obtain rfl : fn = Tryz.f5 := (Option.some.inj (Tryz.func5.symm.trans hfn)).symm
  refine ⟨by kernel_rfl, fun j t ht => ?_⟩
  rw [Tryz.params5] at ht
  have hm : t = 26 := by simpa using Array.mem_of_getElem? ht
  subst hm
  exact (show Tryz.prog.wantsStandIn 26 = false by kernel_rfl)
/-- The card. -/
theorem own19_card : Rows.DictOwnCardSaid :=
  Claim7.holds_tied_plain_at .later [] _ _ _ _ xE0 (fun _ h => by cases h) (by kernel_rfl) (fun _ h => by cases h) dictOwn_row_tie rfl ⟨rfl, rfl⟩ (by kernel_rfl) rfl nX0 (by kernel_rfl)
end Go.Proofs.YtheiocndipepaaaGreatDoor
