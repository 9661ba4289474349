/- For every default cost, list of calls of Set and list of parts of speech MatrixBack returns true and leaves its arguments as they were: the card of the law, where the listed variables of the library are laid as the program's text lays them. -/
import Derived.Test.YtcdjponbhpchbaaGreatDoorBq16
import Derived.Test.YtcdjponbhpchbaaGreatDoorBq3
import Derived.Test.YtcdjponbhpchbaaGreatDoorBq25
namespace Go.Proofs.YtcdjponbhpchbaaGreatDoor
open Go Go.ChangeShapes Go.WideShapes Go.ChangeAt Go.RowKit Go.Shelf Go.Lib
open Go.ChangeMaps (open_string shut_string)

set_option maxRecDepth 100000 in
theorem back16_contract (H : Type) (enc : TypeId × Value → H) (W : World) (base : Nat) (args : Array Value) (ds gs : List (DataW H)) (before : List MemPlace)
    (hval : ∀ (j : Nat) t v, Tryz.f5.params[j]? = some t → args[j]? = some v → Value.okWide Tryz.prog W .any base t v)
    (hW : DataW.Whole enc Tryz.prog Tryz.f5.params.toList Rows.matrixBackSpec.vars false W args.toList ds gs before)
    (hz : (DataW.weightsEach Tryz.prog (Tryz.f5.params.toList ++ (OpenSpec.ofChange Rows.matrixBackSpec).bare.plain.varTypes Tryz.prog) (ds ++ gs)).all (· ≤ reachBytes) = true) (he : Env W) :
    Calls Tryz.prog 5 args W fun e W' => ∃ v, e = .returned v ∧ Rows.matrixBackSpec.post enc Tryz.prog Tryz.f5 false true false false W args v W' := by
  have hW' := hW
  obtain ⟨p, q, hA0, hV, rfl, hfz, hnd⟩ := hW
  have hA : DataW.TrodAll enc Tryz.prog W 0 (fun _ => true) true Tryz.f5.params.toList args.toList ds p := hA0
  rw [Tryz.params5] at hA hval hz
  obtain ⟨v0, v1, v2, d0, d1, d2, p0, p1, p2, rfl, rfl, rfl, h0, h1, h2⟩ := trodAll_three hA
  obtain ⟨rfl, rfl⟩ := trodVars_none hV
  obtain ⟨x0, rfl, hd0, hp0, ok0⟩ := open_int Tryz.underlying3 (hval 0 _ v0 rfl rfl) h0
  obtain ⟨a1, x1, c1, rfl, hat1, ok1, hd1⟩ := open_sets (hval 1 _ v1 rfl rfl) h1
  have len1 := reach_len hz (j := 1) rfl rfl Tryz.underlying42 (of_decide_eq_true (by kernel_rfl)) (Or.elim hd1 (fun h => Or.inl ⟨h.1, congrArg List.length h.2⟩) Or.inr)
  obtain ⟨a2, x2, c2, rfl, hat2, ok2, hd2⟩ := open_ppos (hval 2 _ v2 rfl rfl) h2
  have len2 := reach_len hz (j := 2) rfl rfl Tryz.underlying22 (of_decide_eq_true (by kernel_rfl)) (Or.elim hd2 (fun h => Or.inl ⟨h.1, congrArg List.length h.2⟩) Or.inr)
  refine (back_any x0 x1 a1 c1 x2 a2 c2 W he len1 (fun z hz => (ok1 z hz).c) hat1 len2 hat2).mono fun e W' ⟨hr, hg⟩ => ?_
  subst hr
  have hlt : ∀ x ∈ p0 ++ p1 ++ p2, x.block < W.heap.size := fun x hx => by simpa using hW'.lt x (by simpa using hx)
  refine ⟨_, rfl, _, _, _, [], p0 ++ (p1 ++ (p2)), [], hW', ?_, ?_, ?_, hg.frame _, fun h => by cases h⟩
  · exact trodAll_mk1 (shut_bool Tryz.underlying4 _)
  · exact trodAll_mk3 (Below.trod laidOut (by kernel_rfl) (of_decide_eq_true (by kernel_rfl)) h0 hg (fun x hx => hlt x (by simp [hx]))) (Below.trod laidOut (by kernel_rfl) (of_decide_eq_true (by kernel_rfl)) h1 hg (fun x hx => hlt x (by simp [hx]))) (Below.trod laidOut (by kernel_rfl) (of_decide_eq_true (by kernel_rfl)) h2 hg (fun x hx => hlt x (by simp [hx])))
  · rfl
theorem back16_witness (os : Os) {H : Type} (enc : TypeId × Value → H) :
    (OpenSpec.ofChange Rows.matrixBackSpec).preRow enc Tryz.prog Tryz.f5 Rows.matrixBackRow.domain false Rows.matrixBackRow.laid ((laidWorld os).forCall (fun _ _ => 0) ⟨#[], #[.int .i64 0, .slice none 0 0, .slice none 0 0], []⟩).memory #[.int .i64 0, .slice none 0 0, .slice none 0 0] := by
  have hw : (DataW.whole enc Tryz.prog ((laidWorld os).forCall (fun _ _ => 0) ⟨#[], #[.int .i64 0, .slice none 0 0, .slice none 0 0], []⟩).memory Tryz.f5.params.toList (OpenSpec.ofChange Rows.matrixBackSpec).vars false #[.int .i64 0, .slice none 0 0, .slice none 0 0].toList 8).map (fun x => (x.1, x.2.1)) =
      some ([.lit (.int .i64 0), .nil, .nil], []) := by kernel_rfl
  obtain ⟨⟨y1, y2, y3⟩, hx, hx1⟩ := Option.map_eq_some_iff.1 hw
  simp only [Prod.mk.injEq] at hx1
  obtain ⟨rfl, rfl⟩ := hx1
  exact OpenSpec.preRow_of_cond 8 hx (by kernel_rfl) (fun k hk => by cases hk) (by kernel_rfl) (laid_met os _)
set_option maxRecDepth 100000 in
theorem back16_lifted (os : Os) (started : os.Started) (H : Type) (enc : TypeId × Value → H) (F : Stop.Interp) :
    ReturnsInHanded {} Tryz.checked os 5 .any ((OpenSpec.ofChange Rows.matrixBackSpec).preRow enc Tryz.prog Tryz.f5 Rows.matrixBackRow.domain false Rows.matrixBackRow.laid) (((OpenSpec.ofChange Rows.matrixBackSpec).at F).post enc Tryz.prog Tryz.f5 false true false false) := by
  refine returnsInHanded_of_row (C := Tryz.checked) (s := OpenSpec.ofChange Rows.matrixBackSpec) own started (by kernel_rfl) Tryz.func5
    (witness_row_atRef (enc := enc) (C := Tryz.checked) false (laidWorld os) #[.int .i64 0, .slice none 0 0, .slice none 0 0] rfl (by kernel_rfl) (by kernel_rfl) (by kernel_rfl) (back16_witness os enc)) ?_
  intro W base args ds gs before hval hW _ _ hz hL hS _
  exact back16_contract H enc W base args ds gs before hval hW hz (env_of hL hS)
theorem back16_said : Rows.MatrixBackSaid :=
  OpenClaim.holds_of_cond 5 Tryz.f5 rfl rfl rfl rfl rfl rfl rfl ⟨rfl, rfl, rfl, rfl, rfl⟩ rfl rfl rfl rfl rfl (by kernel_rfl) Tryz.func5 (by kernel_rfl)
    (of_decide_eq_true (by kernel_rfl)) (by unfold Func.isWrapper; first | (rw [if_pos (by decide +kernel)]; kernel_rfl) | (rw [if_neg (by decide +kernel)]; exact ⟨rfl, rfl⟩))
    (fun os started H enc _ F => by rw [OpenClaim.pre_eq_preRow]; exact back16_lifted os started H enc F)
theorem back16_plain (f : FuncId) (fn : Func) (hf : Tryz.pinned.checked.prog.funcNamed "henkan/henkanlaw16.MatrixBack" = some f) (hfn : Tryz.pinned.checked.prog.funcs[f]? = some fn) :
    true = Tryz.pinned.checked.prog.looks [] ∧ ∀ (j : Nat) t, fn.params[j]? = some t → Tryz.pinned.checked.prog.wantsStandIn t = false := by
  obtain rfl : f = 5 := Option.some.inj ((show Tryz.prog.funcNamed "henkan/henkanlaw16.MatrixBack" = some 5 by kernel_rfl).symm.trans hf) |>.symm
  obtain rfl : fn = Tryz.f5 := (Option.some.inj (Tryz.func5.symm.trans hfn)).symm
  refine ⟨by kernel_rfl, fun j t ht => ?_⟩
  rw [Tryz.params5] at ht
  have hm : t = 3 ∨ t = 42 ∨ t = 22 := by simpa using Array.mem_of_getElem? ht
  rcases hm with rfl | rfl | rfl
  · exact (show Tryz.prog.wantsStandIn 3 = false by kernel_rfl)
  · exact (show Tryz.prog.wantsStandIn 42 = false by kernel_rfl)
  · exact (show Tryz.prog.wantsStandIn 22 = false by kernel_rfl)
/-- The card. -/
theorem back16_card : Rows.MatrixBackCardSaid :=
  Claim7.holds_tied_plain_at .later [] _ _ _ _ back16_said (fun _ h => by cases h) (by kernel_rfl) (fun _ h => by cases h) matrixBack_row_tie rfl ⟨rfl, rfl⟩ (by kernel_rfl) rfl back16_plain (by kernel_rfl)
end Go.Proofs.YtcdjponbhpchbaaGreatDoor
