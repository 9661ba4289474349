/- For every case and both ends of a part WordsParts returns true and leaves its arguments as they were: the card of the law, where the listed variables of the library are laid as the program's text lays them. -/
import Derived.Test.YtaogeadljgjpcaaGreatDoorOpenCase
import Derived.Test.YtaogeadljgjpcaaGreatDoorRq7
import Derived.Test.YtaogeadljgjpcaaGreatDoorPar21L
namespace Go.Proofs.YtaogeadljgjpcaaGreatDoor
open Go Go.ChangeShapes Go.WideShapes Go.ChangeAt Go.RowKit Go.Shelf Go.Lib
open Go.ChangeMaps (open_string shut_string)

theorem parts21_int (c : xN) (A : nS0) (i j : Int) (w : World) (he : Env w) (hok : jJ1 c) (hi : (Lit.int .u8 i).wf = true) (hj : (Lit.int .u8 j).wf = true) (hat : kH0 w A c) :
    Calls Tryz.prog 11 #[A.agg c, .int .u8 i, .int .u8 j] w fun e w' => e = .returned (.bool true) ∧ aB w w' := by
  have h1 : 0 ≤ i ∧ i ≤ 255 := by
    simp [Lit.wf, IntKind.min, IntKind.max, IntKind.bits, IntKind.signed] at hi
    omega
  have h2 : 0 ≤ j ∧ j ≤ 255 := by
    simp [Lit.wf, IntKind.min, IntKind.max, IntKind.bits, IntKind.signed] at hj
    omega
  obtain ⟨n, rfl⟩ : ∃ n : Nat, i = n := ⟨i.toNat, by omega⟩
  obtain ⟨m, rfl⟩ : ∃ m : Nat, j = m := ⟨j.toNat, by omega⟩
  exact parts21_any c A n m w he hok (by omega) (by omega) hat
set_option maxRecDepth 100000 in
theorem parts21_contract (H : Type) (enc : TypeId × Value → H) (W : World) (base : Nat) (args : Array Value) (ds gs : List (DataW H)) (before : List MemPlace)
    (hval : ∀ (j : Nat) t v, Tryz.f11.params[j]? = some t → args[j]? = some v → Value.okWide Tryz.prog W .any base t v)
    (hW : DataW.Whole enc Tryz.prog Tryz.f11.params.toList Rows.wordsPartsSpec.vars false W args.toList ds gs before)
    (hz : (DataW.weightsEach Tryz.prog (Tryz.f11.params.toList ++ (OpenSpec.ofChange Rows.wordsPartsSpec).bare.plain.varTypes Tryz.prog) (ds ++ gs)).all (· ≤ reachBytes) = true) (he : Env W) :
    Calls Tryz.prog 11 args W fun e W' => ∃ v, e = .returned v ∧ Rows.wordsPartsSpec.post enc Tryz.prog Tryz.f11 false true false false W args v W' := by
  have hW' := hW
  obtain ⟨p, q, hA0, hV, rfl, hfz, hnd⟩ := hW
  have hA : DataW.TrodAll enc Tryz.prog W 0 (fun _ => true) true Tryz.f11.params.toList args.toList ds p := hA0
  rw [Tryz.params11] at hA hval hz
  obtain ⟨v0, v1, v2, d0, d1, d2, p0, p1, p2, rfl, rfl, rfl, h0, h1, h2⟩ := trodAll_three hA
  obtain ⟨rfl, rfl⟩ := trodVars_none hV
  obtain ⟨x0, A0, rfl, hat0, ok0⟩ := open_case (hval 0 _ v0 rfl rfl) h0 hz (j := 0) rfl rfl
  obtain ⟨x1, rfl, hd1, hp1, ok1⟩ := open_int Tryz.underlying5 (hval 1 _ v1 rfl rfl) h1
  obtain ⟨x2, rfl, hd2, hp2, ok2⟩ := open_int Tryz.underlying5 (hval 2 _ v2 rfl rfl) h2
  refine (parts21_int x0 A0 x1 x2 W he ok0 ok1 ok2 hat0).mono fun e W' ⟨hr, hg⟩ => ?_
  subst hr
  have hlt : ∀ x ∈ p0 ++ p1 ++ p2, x.block < W.heap.size := fun x hx => by simpa using hW'.lt x (by simpa using hx)
  refine ⟨_, rfl, _, _, _, [], p0 ++ (p1 ++ (p2)), [], hW', ?_, ?_, ?_, hg.frame _, fun h => by cases h⟩
  · exact trodAll_mk1 (shut_bool Tryz.underlying4 _)
  · exact trodAll_mk3 (Below.trod laidOut (by kernel_rfl) (of_decide_eq_true (by kernel_rfl)) h0 hg (fun x hx => hlt x (by simp [hx]))) (Below.trod laidOut (by kernel_rfl) (of_decide_eq_true (by kernel_rfl)) h1 hg (fun x hx => hlt x (by simp [hx]))) (Below.trod laidOut (by kernel_rfl) (of_decide_eq_true (by kernel_rfl)) h2 hg (fun x hx => hlt x (by simp [hx])))
  · rfl
theorem parts21_witness (os : Os) {H : Type} (enc : TypeId × Value → H) :
    (OpenSpec.ofChange Rows.wordsPartsSpec).preRow enc Tryz.prog Tryz.f11 Rows.wordsPartsRow.domain false Rows.wordsPartsRow.laid ((xB0 os).forCall (fun _ _ => 0) ⟨#[], #[.agg #[.slice none 0 0, .int .i64 0, .slice none 0 0, .slice none 0 0, .string ⟨#[]⟩, .slice none 0 0], .int .u8 0, .int .u8 0], []⟩).memory #[.agg #[.slice none 0 0, .int .i64 0, .slice none 0 0, .slice none 0 0, .string ⟨#[]⟩, .slice none 0 0], .int .u8 0, .int .u8 0] := by
  have hw : (DataW.whole enc Tryz.prog ((xB0 os).forCall (fun _ _ => 0) ⟨#[], #[.agg #[.slice none 0 0, .int .i64 0, .slice none 0 0, .slice none 0 0, .string ⟨#[]⟩, .slice none 0 0], .int .u8 0, .int .u8 0], []⟩).memory Tryz.f11.params.toList (OpenSpec.ofChange Rows.wordsPartsSpec).vars false #[.agg #[.slice none 0 0, .int .i64 0, .slice none 0 0, .slice none 0 0, .string ⟨#[]⟩, .slice none 0 0], .int .u8 0, .int .u8 0].toList 8).map (fun x => (x.1, x.2.1)) =
      some ([.agg [.agg [.nil, .lit (.int .i64 0), .nil, .nil], .lit (.string []), .nil], .lit (.int .u8 0), .lit (.int .u8 0)], []) := by kernel_rfl
  obtain ⟨⟨y1, y2, y3⟩, hx, hx1⟩ := Option.map_eq_some_iff.1 hw
  simp only [Prod.mk.injEq] at hx1
  obtain ⟨rfl, rfl⟩ := hx1
  exact OpenSpec.preRow_of_cond 8 hx (by kernel_rfl) (fun k hk => by cases hk) (by kernel_rfl) (laid_met os _)
set_option maxRecDepth 100000 in
theorem parts21_lifted (os : Os) (started : os.Started) (H : Type) (enc : TypeId × Value → H) (F : Stop.Interp) :
    ReturnsInHanded {} Tryz.checked os 11 .any ((OpenSpec.ofChange Rows.wordsPartsSpec).preRow enc Tryz.prog Tryz.f11 Rows.wordsPartsRow.domain false Rows.wordsPartsRow.laid) (((OpenSpec.ofChange Rows.wordsPartsSpec).at F).post enc Tryz.prog Tryz.f11 false true false false) := by
  refine returnsInHanded_of_row (C := Tryz.checked) (s := OpenSpec.ofChange Rows.wordsPartsSpec) own started (by kernel_rfl) Tryz.func11
    (witness_row_atRef (enc := enc) (C := Tryz.checked) false (xB0 os) #[.agg #[.slice none 0 0, .int .i64 0, .slice none 0 0, .slice none 0 0, .string ⟨#[]⟩, .slice none 0 0], .int .u8 0, .int .u8 0] rfl (by kernel_rfl) (by kernel_rfl) (by kernel_rfl) (parts21_witness os enc)) ?_
  intro W base args ds gs before hval hW _ _ hz hL hS _
  exact parts21_contract H enc W base args ds gs before hval hW hz (env_of hL hS)
theorem parts21_f1 : laidOutB Tryz.prog = true := by kernel_rfl
theorem parts21_f2 : mapsRowed Tryz.prog = true := by kernel_rfl
theorem parts21_f3 : (Rows.wordsPartsRow.inPlace == Tryz.prog.inPlace 11) = true := by kernel_rfl
theorem parts21_f4 : (Rows.wordsPartsRow.unfollowed == Tryz.prog.unfollowed 11) = true := by kernel_rfl
theorem parts21_f5 : (Rows.wordsPartsRow.recurses == Tryz.prog.recurses 11) = true := by kernel_rfl
theorem parts21_f6 : (Rows.wordsPartsRow.named == Tryz.prog.varsNamed 11) = true := by kernel_rfl
theorem parts21_facts : joinedFacts Tryz.prog 11 Tryz.f11 (OpenSpec.ofChange Rows.wordsPartsSpec).bare Rows.wordsPartsRow = true := by
  unfold joinedFacts
  rw [parts21_f1, parts21_f2, parts21_f3, parts21_f4, parts21_f5, parts21_f6]
  kernel_rfl
theorem parts21_said : Rows.WordsPartsSaid :=
  OpenClaim.holds_of_cond 11 Tryz.f11 rfl rfl rfl rfl rfl rfl rfl ⟨rfl, rfl, rfl, rfl, rfl⟩ rfl rfl rfl rfl rfl (by kernel_rfl) Tryz.func11 parts21_facts
    (of_decide_eq_true (by kernel_rfl)) (by unfold Func.isWrapper; first | (rw [if_pos (by decide +kernel)]; kernel_rfl) | (rw [if_neg (by decide +kernel)]; exact ⟨rfl, rfl⟩))
    (fun os started H enc _ F => by rw [OpenClaim.pre_eq_preRow]; exact parts21_lifted os started H enc F)
theorem parts21_plain (f : FuncId) (fn : Func) (hf : Tryz.pinned.checked.prog.funcNamed "henkan/henkanlaw21.WordsParts" = some f) (hfn : Tryz.pinned.checked.prog.funcs[f]? = some fn) :
    true = Tryz.pinned.checked.prog.looks [] ∧ ∀ (j : Nat) t, fn.params[j]? = some t → Tryz.pinned.checked.prog.wantsStandIn t = false := by
  obtain rfl : f = 11 := Option.some.inj ((show Tryz.prog.funcNamed "henkan/henkanlaw21.WordsParts" = some 11 by kernel_rfl).symm.trans hf) |>.symm
  obtain rfl : fn = Tryz.f11 := (Option.some.inj (Tryz.func11.symm.trans hfn)).symm
  refine ⟨by kernel_rfl, fun j t ht => ?_⟩
  rw [Tryz.params11] at ht
  have hm : t = 33 ∨ t = 5 := by simpa using Array.mem_of_getElem? ht
  rcases hm with rfl | rfl
  · exact (show Tryz.prog.wantsStandIn 33 = false by kernel_rfl)
  · exact (show Tryz.prog.wantsStandIn 5 = false by kernel_rfl)
/-- The card. -/
theorem parts21_card : Rows.WordsPartsCardSaid :=
  Claim7.holds_tied_plain_at .later [] _ _ _ _ parts21_said (fun _ h => by cases h) (by kernel_rfl) (fun _ h => by cases h) wordsParts_row_tie rfl ⟨rfl, rfl⟩ (by kernel_rfl) rfl parts21_plain (by kernel_rfl)
end Go.Proofs.YtaogeadljgjpcaaGreatDoor
