/- For every text and every list of parts of speech MatrixParses returns true and leaves its arguments as they were: the card of the law, where the listed variables of the library are laid as the program's text lays them. -/
import Derived.Test.YtcdjponbhpchbaaGreatDoorParses17
import Derived.Test.YtcdjponbhpchbaaGreatDoorParses3
import Derived.Test.YtcdjponbhpchbaaGreatDoorParses24
namespace Go.Proofs.YtcdjponbhpchbaaGreatDoor
open Go Go.ChangeShapes Go.WideShapes Go.ChangeAt Go.RowKit Go.Shelf Go.Lib
open Go.ChangeMaps (open_string shut_string)

set_option maxRecDepth 100000 in
theorem parses16_contract (H : Type) (enc : TypeId × Value → H) (W : World) (base : Nat) (args : Array Value) (ds gs : List (DataW H)) (before : List MemPlace)
    (hval : ∀ (j : Nat) t v, Tryz.f3.params[j]? = some t → args[j]? = some v → Value.okWide Tryz.prog W .any base t v)
    (hW : DataW.Whole enc Tryz.prog Tryz.f3.params.toList Rows.matrixParsesSpec.vars false W args.toList ds gs before)
    (hz : (DataW.weightsEach Tryz.prog (Tryz.f3.params.toList ++ (OpenSpec.ofChange Rows.matrixParsesSpec).bare.plain.varTypes Tryz.prog) (ds ++ gs)).all (· ≤ reachBytes) = true) (he : Env W) :
    Calls Tryz.prog 3 args W fun e W' => ∃ v, e = .returned v ∧ Rows.matrixParsesSpec.post enc Tryz.prog Tryz.f3 false true false false W args v W' := by
  have hW' := hW
  obtain ⟨p, q, hA0, hV, rfl, hfz, hnd⟩ := hW
  have hA : DataW.TrodAll enc Tryz.prog W 0 (fun _ => true) true Tryz.f3.params.toList args.toList ds p := hA0
  rw [Tryz.params3] at hA hval hz
  obtain ⟨v0, v1, d0, d1, p0, p1, rfl, rfl, rfl, h0, h1⟩ := trodAll_two hA
  obtain ⟨rfl, rfl⟩ := trodVars_none hV
  obtain ⟨x0, rfl, hd0, hp0, ok0⟩ := open_string Tryz.underlying9 (hval 0 _ v0 rfl rfl) h0
  have len0 : x0.size ≤ 140737488355328 := by
    have hz2 := sized_string (bytes := x0.data.toList) hz (j := 0) rfl (by rw [hd0]; rfl)
    have h3 : reachBytes < 2 ^ 47 := reachBytes_lt
    rw [← Lib.size_eq] at hz2; omega
  obtain ⟨a1, x1, c1, rfl, hat1, ok1, hd1⟩ := open_ppos (hval 1 _ v1 rfl rfl) h1
  have len1 := reach_len hz (j := 1) rfl rfl Tryz.underlying22 (of_decide_eq_true (by kernel_rfl)) (Or.elim hd1 (fun h => Or.inl ⟨h.1, congrArg List.length h.2⟩) Or.inr)
  refine (parses16_any x0 x1 a1 c1 W he (by omega) (reach_bytes hz (j := 1) rfl rfl Tryz.underlying22 (by kernel_rfl) (Or.elim hd1 (fun h => Or.inl ⟨h.1, congrArg List.length h.2⟩) Or.inr)) (fun z hz => Nat.le_trans (ok1 z hz).n (by decide)) hat1).mono fun e W' ⟨hr, hg⟩ => ?_
  subst hr
  have hlt : ∀ x ∈ p0 ++ p1, x.block < W.heap.size := fun x hx => by simpa using hW'.lt x (by simpa using hx)
  refine ⟨_, rfl, _, _, _, [], p0 ++ (p1), [], hW', ?_, ?_, ?_, hg.frame _, fun h => by cases h⟩
  · exact trodAll_mk1 (shut_bool Tryz.underlying4 _)
  · exact trodAll_mk2 (Below.trod laidOut (by kernel_rfl) (of_decide_eq_true (by kernel_rfl)) h0 hg (fun x hx => hlt x (by simp [hx]))) (Below.trod laidOut (by kernel_rfl) (of_decide_eq_true (by kernel_rfl)) h1 hg (fun x hx => hlt x (by simp [hx])))
  · rfl
theorem parses16_witness (os : Os) {H : Type} (enc : TypeId × Value → H) :
    (OpenSpec.ofChange Rows.matrixParsesSpec).preRow enc Tryz.prog Tryz.f3 Rows.matrixParsesRow.domain false Rows.matrixParsesRow.laid ((laidWorld os).forCall (fun _ _ => 0) ⟨#[], #[.string ⟨#[]⟩, .slice none 0 0], []⟩).memory #[.string ⟨#[]⟩, .slice none 0 0] := by
  have hw : (DataW.whole enc Tryz.prog ((laidWorld os).forCall (fun _ _ => 0) ⟨#[], #[.string ⟨#[]⟩, .slice none 0 0], []⟩).memory Tryz.f3.params.toList (OpenSpec.ofChange Rows.matrixParsesSpec).vars false #[.string ⟨#[]⟩, .slice none 0 0].toList 8).map (fun x => (x.1, x.2.1)) =
      some ([.lit (.string []), .nil], []) := by kernel_rfl
  obtain ⟨⟨y1, y2, y3⟩, hx, hx1⟩ := Option.map_eq_some_iff.1 hw
  simp only [Prod.mk.injEq] at hx1
  obtain ⟨rfl, rfl⟩ := hx1
  exact OpenSpec.preRow_of_cond 8 hx (by kernel_rfl) (fun k hk => by cases hk) (by kernel_rfl) (laid_met os _)
set_option maxRecDepth 100000 in
theorem parses16_lifted (os : Os) (started : os.Started) (H : Type) (enc : TypeId × Value → H) (F : Stop.Interp) :
    ReturnsInHanded {} Tryz.checked os 3 .any ((OpenSpec.ofChange Rows.matrixParsesSpec).preRow enc Tryz.prog Tryz.f3 Rows.matrixParsesRow.domain false Rows.matrixParsesRow.laid) (((OpenSpec.ofChange Rows.matrixParsesSpec).at F).post enc Tryz.prog Tryz.f3 false true false false) := by
  refine returnsInHanded_of_row (C := Tryz.checked) (s := OpenSpec.ofChange Rows.matrixParsesSpec) own started (by kernel_rfl) Tryz.func3
    (witness_row_atRef (enc := enc) (C := Tryz.checked) false (laidWorld os) #[.string ⟨#[]⟩, .slice none 0 0] rfl (by kernel_rfl) (by kernel_rfl) (by kernel_rfl) (parses16_witness os enc)) ?_
  intro W base args ds gs before hval hW _ _ hz hL hS _
  exact parses16_contract H enc W base args ds gs before hval hW hz (env_of hL hS)
theorem parses16_said : Rows.MatrixParsesSaid :=
  OpenClaim.holds_of_cond 3 Tryz.f3 rfl rfl rfl rfl rfl rfl rfl ⟨rfl, rfl, rfl, rfl, rfl⟩ rfl rfl rfl rfl rfl (by kernel_rfl) Tryz.func3 (by kernel_rfl)
    (of_decide_eq_true (by kernel_rfl)) (by unfold Func.isWrapper; first | (rw [if_pos (by decide +kernel)]; kernel_rfl) | (rw [if_neg (by decide +kernel)]; exact ⟨rfl, rfl⟩))
    (fun os started H enc _ F => by rw [OpenClaim.pre_eq_preRow]; exact parses16_lifted os started H enc F)
theorem parses16_plain (f : FuncId) (fn : Func) (hf : Tryz.pinned.checked.prog.funcNamed "henkan/henkanlaw16.MatrixParses" = some f) (hfn : Tryz.pinned.checked.prog.funcs[f]? = some fn) :
    true = Tryz.pinned.checked.prog.looks [] ∧ ∀ (j : Nat) t, fn.params[j]? = some t → Tryz.pinned.checked.prog.wantsStandIn t = false := by
  obtain rfl : f = 3 := Option.some.inj ((show Tryz.prog.funcNamed "henkan/henkanlaw16.MatrixParses" = some 3 by kernel_rfl).symm.trans hf) |>.symm
  obtain rfl : fn = Tryz.f3 := (Option.some.inj (Tryz.func3.symm.trans hfn)).symm
  refine ⟨by kernel_rfl, fun j t ht => ?_⟩
  rw [Tryz.params3] at ht
  have hm : t = 9 ∨ t = 22 := by simpa using Array.mem_of_getElem? ht
  rcases hm with rfl | rfl
  · exact (show Tryz.prog.wantsStandIn 9 = false by kernel_rfl)
  · exact (show Tryz.prog.wantsStandIn 22 = false by kernel_rfl)
/-- The card. -/
theorem parses16_card : Rows.MatrixParsesCardSaid :=
  Claim7.holds_tied_plain_at .later [] _ _ _ _ parses16_said (fun _ h => by cases h) (by kernel_rfl) (fun _ h => by cases h) matrixParses_row_tie rfl ⟨rfl, rfl⟩ (by kernel_rfl) rfl parses16_plain (by kernel_rfl)
end Go.Proofs.YtcdjponbhpchbaaGreatDoor
