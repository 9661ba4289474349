/- For every list of entries and every two entries EntrySorts returns true and leaves its arguments as they were: the card of the law, where the listed variables of the library are laid as the program's text lays them. -/
import Derived.Test.YtndhhgpmpnmljaaGreatDoorOpenS
import Derived.Test.YtndhhgpmpnmljaaGreatDoorWitness
import Derived.Test.YtndhhgpmpnmljaaGreatDoorSortsL
namespace Go.Proofs.YtndhhgpmpnmljaaGreatDoor
open Go Go.ChangeShapes Go.WideShapes Go.ChangeAt Go.RowKit Go.Shelf Go.Lib
open Go.ChangeMaps (open_string shut_string)

abbrev zeroV : Value := .agg #[.string ⟨#[]⟩, .string ⟨#[]⟩, .int .i64 0, .int .i64 0, .int .i64 0]
abbrev zeroD {H : Type} : DataW H := .agg [.lit (.string []), .lit (.string []), .lit (.int .i64 0), .lit (.int .i64 0), .lit (.int .i64 0)]
set_option maxRecDepth 100000 in
theorem sorts_contract (H : Type) (enc : TypeId × Value → H) (W : World) (base : Nat) (args : Array Value) (ds gs : List (DataW H)) (before : List MemPlace)
    (hval : ∀ (j : Nat) t v, Tryz.f6.params[j]? = some t → args[j]? = some v → Value.okWide Tryz.prog W .any base t v)
    (hW : DataW.Whole enc Tryz.prog Tryz.f6.params.toList Rows.entrySortsSpec.vars false W args.toList ds gs before)
    (hz : (DataW.weightsEach Tryz.prog (Tryz.f6.params.toList ++ (OpenSpec.ofChange Rows.entrySortsSpec).bare.plain.varTypes Tryz.prog) (ds ++ gs)).all (· ≤ reachBytes) = true) (he : Env W) :
    Calls Tryz.prog 6 args W fun e W' => ∃ v, e = .returned v ∧ Rows.entrySortsSpec.post enc Tryz.prog Tryz.f6 false true false false W args v W' := by
  have hW' := hW
  obtain ⟨p, q, hA0, hV, rfl, hfz, hnd⟩ := hW
  have hA : DataW.TrodAll enc Tryz.prog W 0 (fun _ => true) true Tryz.f6.params.toList args.toList ds p := hA0
  rw [Tryz.params6] at hA hval hz
  obtain ⟨v0, v1, v2, d0, d1, d2, p0, p1, p2, rfl, rfl, rfl, h0, h1, h2⟩ := trodAll_three hA
  obtain ⟨rfl, rfl⟩ := trodVars_none hV
  obtain ⟨a0, x0, c0, rfl, hat0, ok0, hd0⟩ := open_entries (hval 0 _ v0 rfl rfl) h0
  have len0 := reach_len hz (j := 0) rfl rfl Tryz.underlying52 (of_decide_eq_true (by kernel_rfl)) (Or.elim hd0 (fun h => Or.inl ⟨h.1, congrArg List.length h.2⟩) Or.inr)
  obtain ⟨x1, rfl, ok1⟩ := open_entry (hval 1 _ v1 rfl rfl) h1
  obtain ⟨x2, rfl, ok2⟩ := open_entry (hval 2 _ v2 rfl rfl) h2
  refine (sorts_any x0 a0 c0 x1 x2 W he len0 ok0 hat0 (slice_nil Tryz.underlying52 h0)).mono fun e W' ⟨hr, hg⟩ => ?_
  subst hr
  have hlt : ∀ x ∈ p0 ++ p1 ++ p2, x.block < W.heap.size := fun x hx => by simpa using hW'.lt x (by simpa using hx)
  refine ⟨_, rfl, _, _, _, [], p0 ++ (p1 ++ (p2)), [], hW', ?_, ?_, ?_, hg.frame _, fun h => by cases h⟩
  · exact trodAll_mk1 (shut_bool Tryz.underlying4 _)
  · exact trodAll_mk3 (Below.trod laidOut (by kernel_rfl) (of_decide_eq_true (by kernel_rfl)) h0 hg (fun x hx => hlt x (by simp [hx]))) (Below.trod laidOut (by kernel_rfl) (of_decide_eq_true (by kernel_rfl)) h1 hg (fun x hx => hlt x (by simp [hx]))) (Below.trod laidOut (by kernel_rfl) (of_decide_eq_true (by kernel_rfl)) h2 hg (fun x hx => hlt x (by simp [hx])))
  · rfl
theorem sorts_witness (os : Os) {H : Type} (enc : TypeId × Value → H) :
    (OpenSpec.ofChange Rows.entrySortsSpec).preRow enc Tryz.prog Tryz.f6 Rows.entrySortsRow.domain false Rows.entrySortsRow.laid ((laidWorld os).forCall (fun _ _ => 0) ⟨#[], #[.slice none 0 0, zeroV, zeroV], []⟩).memory #[.slice none 0 0, zeroV, zeroV] := by
  have hw : (DataW.whole enc Tryz.prog ((laidWorld os).forCall (fun _ _ => 0) ⟨#[], #[.slice none 0 0, zeroV, zeroV], []⟩).memory Tryz.f6.params.toList (OpenSpec.ofChange Rows.entrySortsSpec).vars false #[.slice none 0 0, zeroV, zeroV].toList 8).map (fun x => (x.1, x.2.1)) =
      some ([.nil, zeroD, zeroD], []) := by kernel_rfl
  obtain ⟨⟨y1, y2, y3⟩, hx, hx1⟩ := Option.map_eq_some_iff.1 hw
  simp only [Prod.mk.injEq] at hx1
  obtain ⟨rfl, rfl⟩ := hx1
  exact OpenSpec.preRow_of_cond 8 hx (by kernel_rfl) (fun k hk => by cases hk) (by kernel_rfl) (laid_met os _)
set_option maxRecDepth 100000 in
theorem sorts_lifted (os : Os) (started : os.Started) (H : Type) (enc : TypeId × Value → H) (F : Stop.Interp) :
    ReturnsInHanded {} Tryz.checked os 6 .any ((OpenSpec.ofChange Rows.entrySortsSpec).preRow enc Tryz.prog Tryz.f6 Rows.entrySortsRow.domain false Rows.entrySortsRow.laid) (((OpenSpec.ofChange Rows.entrySortsSpec).at F).post enc Tryz.prog Tryz.f6 false true false false) := by
  refine returnsInHanded_of_row (C := Tryz.checked) (s := OpenSpec.ofChange Rows.entrySortsSpec) own started (by kernel_rfl) Tryz.func6
    (witness_row_atRef (enc := enc) (C := Tryz.checked) false (laidWorld os) #[.slice none 0 0, zeroV, zeroV] rfl (by kernel_rfl) (by kernel_rfl) (by kernel_rfl) (sorts_witness os enc)) ?_
  intro W base args ds gs before hval hW _ _ hz hL hS _
  exact sorts_contract H enc W base args ds gs before hval hW hz (env_of hL hS)
theorem sorts_said : Rows.EntrySortsSaid :=
  OpenClaim.holds_of_cond 6 Tryz.f6 rfl rfl rfl rfl rfl rfl rfl ⟨rfl, rfl, rfl, rfl, rfl⟩ rfl rfl rfl rfl rfl (by kernel_rfl) Tryz.func6 (by kernel_rfl)
    (of_decide_eq_true (by kernel_rfl)) (by unfold Func.isWrapper; first | (rw [if_pos (by decide +kernel)]; kernel_rfl) | (rw [if_neg (by decide +kernel)]; exact ⟨rfl, rfl⟩))
    (fun os started H enc _ F => by rw [OpenClaim.pre_eq_preRow]; exact sorts_lifted os started H enc F)
theorem sorts_plain (f : FuncId) (fn : Func) (hf : Tryz.pinned.checked.prog.funcNamed "henkan/henkanlaw17.EntrySorts" = some f) (hfn : Tryz.pinned.checked.prog.funcs[f]? = some fn) :
    true = Tryz.pinned.checked.prog.looks [] ∧ ∀ (j : Nat) t, fn.params[j]? = some t → Tryz.pinned.checked.prog.wantsStandIn t = false := by
  obtain rfl : f = 6 := Option.some.inj ((show Tryz.prog.funcNamed "henkan/henkanlaw17.EntrySorts" = some 6 by kernel_rfl).symm.trans hf) |>.symm
  obtain rfl : fn = Tryz.f6 := (Option.some.inj (Tryz.func6.symm.trans hfn)).symm
  refine ⟨by kernel_rfl, fun j t ht => ?_⟩
  rw [Tryz.params6] at ht
  have hm : t = 52 ∨ t = 54 := by simpa using Array.mem_of_getElem? ht
  rcases hm with rfl | rfl
  · exact (show Tryz.prog.wantsStandIn 52 = false by kernel_rfl)
  · exact (show Tryz.prog.wantsStandIn 54 = false by kernel_rfl)
/-- The card. -/
theorem sorts_card : Rows.EntrySortsCardSaid :=
  Claim7.holds_tied_plain_at .later [] _ _ _ _ sorts_said (fun _ h => by cases h) (by kernel_rfl) (fun _ h => by cases h) entrySorts_row_tie rfl ⟨rfl, rfl⟩ (by kernel_rfl) rfl sorts_plain (by kernel_rfl)
end Go.Proofs.YtndhhgpmpnmljaaGreatDoor
