/- For every question PredictRises returns true and leaves its arguments as they were: the card of the law, where the listed variables of the library are laid as the program's text lays them. -/
import Derived.Test.YtjhajgffmnkocaaGreatDoorPq30
import Derived.Test.YtjhajgffmnkocaaGreatDoorPq7
import Derived.Test.YtjhajgffmnkocaaGreatDoorPrRis
namespace Go.Proofs.YtjhajgffmnkocaaGreatDoor
open Go Go.ChangeShapes Go.WideShapes Go.ChangeAt Go.RowKit Go.Shelf Go.Lib
open Go.ChangeMaps (open_string shut_string)

theorem ris38_int (x : zZ0) (A : oI0) (i j : Int) (w : World) (he : Env w) (hok : mP1 x) (hi : (Lit.int .u8 i).wf = true) (hj : (Lit.int .u8 j).wf = true) (hat : fE0 w A x) :
    Calls Tryz.prog 7 #[A.agg x, .int .u8 i, .int .u8 j] w fun e w' => e = .returned (.bool true) ∧ aB w w' := by
  have h1 : 0 ≤ i ∧ i ≤ 255 := by
    simp [Lit.wf, IntKind.min, IntKind.max, IntKind.bits, IntKind.signed] at hi
    omega
  have h2 : 0 ≤ j ∧ j ≤ 255 := by
    simp [Lit.wf, IntKind.min, IntKind.max, IntKind.bits, IntKind.signed] at hj
    omega
  obtain ⟨n, rfl⟩ : ∃ n : Nat, i = n := ⟨i.toNat, by omega⟩
  obtain ⟨m, rfl⟩ : ∃ m : Nat, j = m := ⟨j.toNat, by omega⟩
  exact ris38_any x A n m (by omega) (by omega) w he hok hat
set_option maxRecDepth 100000 in
theorem ris38_contract (H : Type) (enc : TypeId × Value → H) (W : World) (base : Nat) (args : Array Value) (ds gs : List (DataW H)) (before : List MemPlace)
    (hval : ∀ (j : Nat) t v, Tryz.f7.params[j]? = some t → args[j]? = some v → Value.okWide Tryz.prog W .any base t v)
    (hW : DataW.Whole enc Tryz.prog Tryz.f7.params.toList Rows.predictRisesSpec.vars false W args.toList ds gs before)
    (hz : (DataW.weightsEach Tryz.prog (Tryz.f7.params.toList ++ (OpenSpec.ofChange Rows.predictRisesSpec).bare.plain.varTypes Tryz.prog) (ds ++ gs)).all (· ≤ reachBytes) = true) (he : Env W) :
    Calls Tryz.prog 7 args W fun e W' => ∃ v, e = .returned v ∧ Rows.predictRisesSpec.post enc Tryz.prog Tryz.f7 false true false false W args v W' := by
  have hW' := hW
  obtain ⟨p, q, hA0, hV, rfl, hfz, hnd⟩ := hW
  have hA : DataW.TrodAll enc Tryz.prog W 0 (fun _ => true) true Tryz.f7.params.toList args.toList ds p := hA0
  rw [Tryz.params7] at hA hval hz
  obtain ⟨v0, v1, v2, d0, d1, d2, p0, p1, p2, rfl, rfl, rfl, h0, h1, h2⟩ := trodAll_three hA
  obtain ⟨rfl, rfl⟩ := trodVars_none hV
  obtain ⟨x0, A0, rfl, hat0, ok0⟩ := open_ask (hval 0 _ v0 rfl rfl) h0 hz (j := 0) rfl rfl
  obtain ⟨x1, rfl, hd1, hp1, ok1⟩ := open_int Tryz.underlying5 (hval 1 _ v1 rfl rfl) h1
  obtain ⟨x2, rfl, hd2, hp2, ok2⟩ := open_int Tryz.underlying5 (hval 2 _ v2 rfl rfl) h2
  refine (ris38_int x0 A0 x1 x2 W he ok0 ok1 ok2 hat0).mono fun e W' ⟨hr, hg⟩ => ?_
  subst hr
  have hlt : ∀ x ∈ p0 ++ p1 ++ p2, x.block < W.heap.size := fun x hx => by simpa using hW'.lt x (by simpa using hx)
  refine ⟨_, rfl, _, _, _, [], p0 ++ (p1 ++ (p2)), [], hW', ?_, ?_, ?_, hg.frame _, fun h => by cases h⟩
  · exact trodAll_mk1 (shut_bool Tryz.underlying4 _)
  · exact trodAll_mk3 (Below.trod laidOut (by kernel_rfl) (of_decide_eq_true (by kernel_rfl)) h0 hg (fun x hx => hlt x (by simp [hx]))) (Below.trod laidOut (by kernel_rfl) (of_decide_eq_true (by kernel_rfl)) h1 hg (fun x hx => hlt x (by simp [hx]))) (Below.trod laidOut (by kernel_rfl) (of_decide_eq_true (by kernel_rfl)) h2 hg (fun x hx => hlt x (by simp [hx])))
  · rfl
theorem ris38_witness (os : Os) {H : Type} (enc : TypeId × Value → H) :
    (OpenSpec.ofChange Rows.predictRisesSpec).preRow enc Tryz.prog Tryz.f7 Rows.predictRisesRow.domain false Rows.predictRisesRow.laid ((yU0 os).forCall (fun _ _ => 0) ⟨#[], #[.agg #[.slice none 0 0, .int .i64 0, .slice none 0 0, .slice none 0 0, .slice none 0 0, .string ⟨#[]⟩, .string ⟨#[]⟩, .int .i64 0], .int .u8 0, .int .u8 0], []⟩).memory #[.agg #[.slice none 0 0, .int .i64 0, .slice none 0 0, .slice none 0 0, .slice none 0 0, .string ⟨#[]⟩, .string ⟨#[]⟩, .int .i64 0], .int .u8 0, .int .u8 0] := by
  have hw : (DataW.whole enc Tryz.prog ((yU0 os).forCall (fun _ _ => 0) ⟨#[], #[.agg #[.slice none 0 0, .int .i64 0, .slice none 0 0, .slice none 0 0, .slice none 0 0, .string ⟨#[]⟩, .string ⟨#[]⟩, .int .i64 0], .int .u8 0, .int .u8 0], []⟩).memory Tryz.f7.params.toList (OpenSpec.ofChange Rows.predictRisesSpec).vars false #[.agg #[.slice none 0 0, .int .i64 0, .slice none 0 0, .slice none 0 0, .slice none 0 0, .string ⟨#[]⟩, .string ⟨#[]⟩, .int .i64 0], .int .u8 0, .int .u8 0].toList 8).map (fun x => (x.1, x.2.1)) =
      some ([.agg [.agg [.nil, .lit (.int .i64 0), .nil, .nil], .nil, .lit (.string []), .lit (.string []), .lit (.int .i64 0)], .lit (.int .u8 0), .lit (.int .u8 0)], []) := by kernel_rfl
  obtain ⟨⟨y1, y2, y3⟩, hx, hx1⟩ := Option.map_eq_some_iff.1 hw
  simp only [Prod.mk.injEq] at hx1
  obtain ⟨rfl, rfl⟩ := hx1
  exact OpenSpec.preRow_of_cond 8 hx (by kernel_rfl) (fun k hk => by cases hk) (by kernel_rfl) (laid_met os _)
set_option maxRecDepth 100000 in
theorem ris38_lifted (os : Os) (started : os.Started) (H : Type) (enc : TypeId × Value → H) (F : Stop.Interp) :
    ReturnsInHanded {} Tryz.checked os 7 .any ((OpenSpec.ofChange Rows.predictRisesSpec).preRow enc Tryz.prog Tryz.f7 Rows.predictRisesRow.domain false Rows.predictRisesRow.laid) (((OpenSpec.ofChange Rows.predictRisesSpec).at F).post enc Tryz.prog Tryz.f7 false true false false) := by
  refine returnsInHanded_of_row (C := Tryz.checked) (s := OpenSpec.ofChange Rows.predictRisesSpec) own started (by kernel_rfl) Tryz.func7
    (witness_row_atRef (enc := enc) (C := Tryz.checked) false (yU0 os) #[.agg #[.slice none 0 0, .int .i64 0, .slice none 0 0, .slice none 0 0, .slice none 0 0, .string ⟨#[]⟩, .string ⟨#[]⟩, .int .i64 0], .int .u8 0, .int .u8 0] rfl (by kernel_rfl) (by kernel_rfl) (by kernel_rfl) (ris38_witness os enc)) ?_
  intro W base args ds gs before hval hW _ _ hz hL hS _
  exact ris38_contract H enc W base args ds gs before hval hW hz (env_of hL hS)
theorem ris38_f1 : laidOutB Tryz.prog = true := by kernel_rfl
theorem ris38_f2 : mapsRowed Tryz.prog = true := by kernel_rfl
theorem ris38_f3 : (Rows.predictRisesRow.inPlace == Tryz.prog.inPlace 7) = true := by kernel_rfl
theorem ris38_f4 : (Rows.predictRisesRow.unfollowed == Tryz.prog.unfollowed 7) = true := by kernel_rfl
theorem ris38_f5 : (Rows.predictRisesRow.recurses == Tryz.prog.recurses 7) = true := by kernel_rfl
theorem ris38_f6 : (Rows.predictRisesRow.named == Tryz.prog.varsNamed 7) = true := by kernel_rfl
theorem ris38_facts : joinedFacts Tryz.prog 7 Tryz.f7 (OpenSpec.ofChange Rows.predictRisesSpec).bare Rows.predictRisesRow = true := by
  unfold joinedFacts
  rw [ris38_f1, ris38_f2, ris38_f3, ris38_f4, ris38_f5, ris38_f6]
  kernel_rfl
theorem ris38_said : Rows.PredictRisesSaid :=
  OpenClaim.holds_of_cond 7 Tryz.f7 rfl rfl rfl rfl rfl rfl rfl ⟨rfl, rfl, rfl, rfl, rfl⟩ rfl rfl rfl rfl rfl (by kernel_rfl) Tryz.func7 ris38_facts
    (of_decide_eq_true (by kernel_rfl)) (by unfold Func.isWrapper; first | (rw [if_pos (by decide +kernel)]; kernel_rfl) | (rw [if_neg (by decide +kernel)]; exact ⟨rfl, rfl⟩))
    (fun os started H enc _ F => by rw [OpenClaim.pre_eq_preRow]; exact ris38_lifted os started H enc F)
theorem ris38_plain (f : FuncId) (fn : Func) (hf : Tryz.pinned.checked.prog.funcNamed "henkan/henkanlaw38.PredictRises" = some f) (hfn : Tryz.pinned.checked.prog.funcs[f]? = some fn) :
    true = Tryz.pinned.checked.prog.looks [] ∧ ∀ (j : Nat) t, fn.params[j]? = some t → Tryz.pinned.checked.prog.wantsStandIn t = false := by
  obtain rfl : f = 7 := Option.some.inj ((show Tryz.prog.funcNamed "henkan/henkanlaw38.PredictRises" = some 7 by kernel_rfl).symm.trans hf) |>.symm
  obtain rfl : fn = Tryz.f7 := (Option.some.inj (Tryz.func7.symm.trans hfn)).symm
  refine ⟨by kernel_rfl, fun j t ht => ?_⟩
  rw [Tryz.params7] at ht
  have hm : t = 29 ∨ t = 5 := by simpa using Array.mem_of_getElem? ht
  rcases hm with rfl | rfl
  · exact (show Tryz.prog.wantsStandIn 29 = false by kernel_rfl)
  · exact (show Tryz.prog.wantsStandIn 5 = false by kernel_rfl)
/-- The card. -/
theorem ris38_card : Rows.PredictRisesCardSaid :=
  Claim7.holds_tied_plain_at .later [] _ _ _ _ ris38_said (fun _ h => by cases h) (by kernel_rfl) (fun _ h => by cases h) predictRises_row_tie rfl ⟨rfl, rfl⟩ (by kernel_rfl) rfl ris38_plain (by kernel_rfl)
end Go.Proofs.YtjhajgffmnkocaaGreatDoor
