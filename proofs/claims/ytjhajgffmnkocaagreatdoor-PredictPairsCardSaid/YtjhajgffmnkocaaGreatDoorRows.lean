/-
  NARROWER THAN 'FOR EVERY INPUT', by the rows' own cells (each row's printed sentence says how): PredictLists: laid · PredictNone: laid · PredictOrder: laid · PredictFewer: laid · PredictRises: laid · PredictPairs: laid · PredictScores: laid · PredictKnown: laid.
  DERIVED. THE GIVEN ROWS OF THIS SEAT. 8 by the template 'for every input the law returns true; each argument reads behind the call as it read before'; 0 by the template 'total and deterministic' (their statements: YtjhajgffmnkocaaGreatDoorTotals.lean).
  GIVEN WITH THE SEED: the statements are not yours to turn. If you find one false, say at which input.
  Laid BY PROGRAM, IN A SANDBOX (cutbox-rows.mjs): the forced cells as the released guide's own fill.sh prints them over the translation 519e6fe416c092a7… (all of the seat's roots in one cut). By AI agents, Wed Nov 11 2026. No macro, syntax, notation, axiom, sorry.
-/
import Derived.Test.YtjhajgffmnkocaaGreatDoorChecked
import GoSem.PinnedTables
import GoSem.Claim
import GoSem.ClaimJoined
import GoSem.ClaimMapViews
import Derived.JoinedTies
import Derived.KernelRfl
namespace Go.Proofs.YtjhajgffmnkocaaGreatDoor
/- THE CELL 'sum', in the pinned program and in every row, IS THE sha256 OF THE DUMP (.gsa) THAT YtjhajgffmnkocaaGreatDoorProg.lean LOADS. Nothing in Lean hashes anything: it is a label: what it is worth is what the hold of that sum in a sandbox is worth. -/
noncomputable def Tryz.pinned : Pinned := { name := "ytjhajgffmnkocaagreatdoor", sum := "519e6fe416c092a7746f350dd272cce91c5848b03a4af48a0b40d7e857d25f64", checked := Tryz.checked }
namespace Rows
def none {H : Type} : Left H := { results := [], args := [] }

/- WHAT THE LISTED PACKAGE-LEVEL VARIABLES READ AS WHEN THE CALL BEGINS. Each datum BY PROGRAM (the guide's laid-datum.mjs) off the statement by which the dump's own 'gosem.cut.vars' lays the variable. In a bare row this is a premise. The card (YtjhajgffmnkocaaGreatDoorCards.lean) ties it to the program's text. -/
def laid_henkan_crc_quarter {H : Type} : DataW H := .agg [.lit (.int .u32 0), .lit (.int .u32 498536548), .lit (.int .u32 997073096), .lit (.int .u32 651767980), .lit (.int .u32 1994146192), .lit (.int .u32 1802195444), .lit (.int .u32 1303535960), .lit (.int .u32 1342533948), .lit (.int .u32 3988292384), .lit (.int .u32 4027552580), .lit (.int .u32 3604390888), .lit (.int .u32 3412177804), .lit (.int .u32 2607071920), .lit (.int .u32 2262029012), .lit (.int .u32 2685067896), .lit (.int .u32 3183342108)]
def laid_unicode_utf8_acceptRanges {H : Type} : DataW H := .agg [.agg [.lit (.int .u8 128), .lit (.int .u8 191)], .agg [.lit (.int .u8 160), .lit (.int .u8 191)], .agg [.lit (.int .u8 128), .lit (.int .u8 159)], .agg [.lit (.int .u8 144), .lit (.int .u8 191)], .agg [.lit (.int .u8 128), .lit (.int .u8 143)], .agg [.lit (.int .u8 0), .lit (.int .u8 0)], .agg [.lit (.int .u8 0), .lit (.int .u8 0)], .agg [.lit (.int .u8 0), .lit (.int .u8 0)], .agg [.lit (.int .u8 0), .lit (.int .u8 0)], .agg [.lit (.int .u8 0), .lit (.int .u8 0)], .agg [.lit (.int .u8 0), .lit (.int .u8 0)], .agg [.lit (.int .u8 0), .lit (.int .u8 0)], .agg [.lit (.int .u8 0), .lit (.int .u8 0)], .agg [.lit (.int .u8 0), .lit (.int .u8 0)], .agg [.lit (.int .u8 0), .lit (.int .u8 0)], .agg [.lit (.int .u8 0), .lit (.int .u8 0)]]
/-- One of Go's own tables, pinned by name: the form's constant. -/
def laid_unicode_utf8_first : DataW Unit := Go.Pinned.utf8First

/-- 'henkanlaw38.PredictLists': WHATEVER THE INPUT: true; the input reads as it did. -/
def predictListsSpec : ChangeSpec := { name := "predictLists", fn := fun _ => fun
  | [d] => { results := [.lit (.bool true)], args := [d] }
  | _ => none }
def predictListsRow : OpenClaim := { program := "ytjhajgffmnkocaagreatdoor", sum := "519e6fe416c092a7746f350dd272cce91c5848b03a4af48a0b40d7e857d25f64", func := "henkan/henkanlaw38.PredictLists", spec := "predictLists", inPlace := ["internal/bytealg.IndexByteString", "internal/bytealg.IndexString"], unfollowed := true, recurses := true, named := ["unicode/utf8.first", "unicode/utf8.acceptRanges", "henkan/crc.quarter", "internal/bytealg.MaxLen"], plainKeys := false, apart := false, laid := [("henkan/crc.quarter", laid_henkan_crc_quarter), ("unicode/utf8.acceptRanges", laid_unicode_utf8_acceptRanges), ("unicode/utf8.first", laid_unicode_utf8_first)] }
def PredictListsSaid : Prop := predictListsRow.holds Tryz.pinned (OpenSpec.ofChange predictListsSpec)

/-- ITS FALSE NEIGHBOUR: 'it returns false'. Refute it at one input. -/
def predictListsWrong : ChangeSpec := { name := "predictLists", fn := fun _ => fun
  | [d] => { results := [.lit (.bool false)], args := [d] }
  | _ => none }
def PredictListsWrongFalsely : Prop := predictListsRow.holds Tryz.pinned (OpenSpec.ofChange predictListsWrong)

/-- 'henkanlaw38.PredictNone': WHATEVER THE INPUT: true; the input reads as it did. -/
def predictNoneSpec : ChangeSpec := { name := "predictNone", fn := fun _ => fun
  | [d] => { results := [.lit (.bool true)], args := [d] }
  | _ => none }
def predictNoneRow : OpenClaim := { program := "ytjhajgffmnkocaagreatdoor", sum := "519e6fe416c092a7746f350dd272cce91c5848b03a4af48a0b40d7e857d25f64", func := "henkan/henkanlaw38.PredictNone", spec := "predictNone", inPlace := ["internal/bytealg.IndexByteString", "internal/bytealg.IndexString"], unfollowed := true, recurses := true, named := ["unicode/utf8.first", "unicode/utf8.acceptRanges", "internal/bytealg.MaxLen", "henkan/crc.quarter"], plainKeys := false, apart := false, laid := [("henkan/crc.quarter", laid_henkan_crc_quarter), ("unicode/utf8.acceptRanges", laid_unicode_utf8_acceptRanges), ("unicode/utf8.first", laid_unicode_utf8_first)] }
def PredictNoneSaid : Prop := predictNoneRow.holds Tryz.pinned (OpenSpec.ofChange predictNoneSpec)

/-- ITS FALSE NEIGHBOUR: 'it returns false'. Refute it at one input. -/
def predictNoneWrong : ChangeSpec := { name := "predictNone", fn := fun _ => fun
  | [d] => { results := [.lit (.bool false)], args := [d] }
  | _ => none }
def PredictNoneWrongFalsely : Prop := predictNoneRow.holds Tryz.pinned (OpenSpec.ofChange predictNoneWrong)

/-- 'henkanlaw38.PredictOrder': WHATEVER THE INPUT: true; the input reads as it did. -/
def predictOrderSpec : ChangeSpec := { name := "predictOrder", fn := fun _ => fun
  | [d] => { results := [.lit (.bool true)], args := [d] }
  | _ => none }
def predictOrderRow : OpenClaim := { program := "ytjhajgffmnkocaagreatdoor", sum := "519e6fe416c092a7746f350dd272cce91c5848b03a4af48a0b40d7e857d25f64", func := "henkan/henkanlaw38.PredictOrder", spec := "predictOrder", inPlace := ["internal/bytealg.IndexByteString", "internal/bytealg.IndexString"], unfollowed := true, recurses := true, named := ["unicode/utf8.first", "unicode/utf8.acceptRanges", "henkan/crc.quarter", "internal/bytealg.MaxLen"], plainKeys := false, apart := false, laid := [("henkan/crc.quarter", laid_henkan_crc_quarter), ("unicode/utf8.acceptRanges", laid_unicode_utf8_acceptRanges), ("unicode/utf8.first", laid_unicode_utf8_first)] }
def PredictOrderSaid : Prop := predictOrderRow.holds Tryz.pinned (OpenSpec.ofChange predictOrderSpec)

/-- ITS FALSE NEIGHBOUR: 'it returns false'. Refute it at one input. -/
def predictOrderWrong : ChangeSpec := { name := "predictOrder", fn := fun _ => fun
  | [d] => { results := [.lit (.bool false)], args := [d] }
  | _ => none }
def PredictOrderWrongFalsely : Prop := predictOrderRow.holds Tryz.pinned (OpenSpec.ofChange predictOrderWrong)

/-- 'henkanlaw38.PredictFewer': WHATEVER THE INPUT: true; the input reads as it did. -/
def predictFewerSpec : ChangeSpec := { name := "predictFewer", fn := fun _ => fun
  | [d1, d2] => { results := [.lit (.bool true)], args := [d1, d2] }
  | _ => none }
def predictFewerRow : OpenClaim := { program := "ytjhajgffmnkocaagreatdoor", sum := "519e6fe416c092a7746f350dd272cce91c5848b03a4af48a0b40d7e857d25f64", func := "henkan/henkanlaw38.PredictFewer", spec := "predictFewer", inPlace := ["internal/bytealg.IndexByteString", "internal/bytealg.IndexString"], unfollowed := true, recurses := true, named := ["unicode/utf8.first", "unicode/utf8.acceptRanges", "henkan/crc.quarter", "internal/bytealg.MaxLen"], plainKeys := false, apart := false, laid := [("henkan/crc.quarter", laid_henkan_crc_quarter), ("unicode/utf8.acceptRanges", laid_unicode_utf8_acceptRanges), ("unicode/utf8.first", laid_unicode_utf8_first)] }
def PredictFewerSaid : Prop := predictFewerRow.holds Tryz.pinned (OpenSpec.ofChange predictFewerSpec)

/-- ITS FALSE NEIGHBOUR: 'it returns false'. Refute it at one input. -/
def predictFewerWrong : ChangeSpec := { name := "predictFewer", fn := fun _ => fun
  | [d1, d2] => { results := [.lit (.bool false)], args := [d1, d2] }
  | _ => none }
def PredictFewerWrongFalsely : Prop := predictFewerRow.holds Tryz.pinned (OpenSpec.ofChange predictFewerWrong)

/-- 'henkanlaw38.PredictRises': WHATEVER THE INPUT: true; the input reads as it did. -/
def predictRisesSpec : ChangeSpec := { name := "predictRises", fn := fun _ => fun
  | [d1, d2, d3] => { results := [.lit (.bool true)], args := [d1, d2, d3] }
  | _ => none }
def predictRisesRow : OpenClaim := { program := "ytjhajgffmnkocaagreatdoor", sum := "519e6fe416c092a7746f350dd272cce91c5848b03a4af48a0b40d7e857d25f64", func := "henkan/henkanlaw38.PredictRises", spec := "predictRises", inPlace := ["internal/bytealg.IndexByteString", "internal/bytealg.IndexString"], unfollowed := true, recurses := true, named := ["unicode/utf8.first", "unicode/utf8.acceptRanges", "henkan/crc.quarter", "internal/bytealg.MaxLen"], plainKeys := false, apart := false, laid := [("henkan/crc.quarter", laid_henkan_crc_quarter), ("unicode/utf8.acceptRanges", laid_unicode_utf8_acceptRanges), ("unicode/utf8.first", laid_unicode_utf8_first)] }
def PredictRisesSaid : Prop := predictRisesRow.holds Tryz.pinned (OpenSpec.ofChange predictRisesSpec)

/-- ITS FALSE NEIGHBOUR: 'it returns false'. Refute it at one input. -/
def predictRisesWrong : ChangeSpec := { name := "predictRises", fn := fun _ => fun
  | [d1, d2, d3] => { results := [.lit (.bool false)], args := [d1, d2, d3] }
  | _ => none }
def PredictRisesWrongFalsely : Prop := predictRisesRow.holds Tryz.pinned (OpenSpec.ofChange predictRisesWrong)

/-- 'henkanlaw38.PredictPairs': WHATEVER THE INPUT: true; the input reads as it did. -/
def predictPairsSpec : ChangeSpec := { name := "predictPairs", fn := fun _ => fun
  | [d] => { results := [.lit (.bool true)], args := [d] }
  | _ => none }
def predictPairsRow : OpenClaim := { program := "ytjhajgffmnkocaagreatdoor", sum := "519e6fe416c092a7746f350dd272cce91c5848b03a4af48a0b40d7e857d25f64", func := "henkan/henkanlaw38.PredictPairs", spec := "predictPairs", inPlace := ["internal/bytealg.IndexByteString", "internal/bytealg.IndexString"], unfollowed := true, recurses := true, named := ["unicode/utf8.first", "unicode/utf8.acceptRanges", "henkan/crc.quarter", "internal/bytealg.MaxLen"], plainKeys := false, apart := false, laid := [("henkan/crc.quarter", laid_henkan_crc_quarter), ("unicode/utf8.acceptRanges", laid_unicode_utf8_acceptRanges), ("unicode/utf8.first", laid_unicode_utf8_first)] }
def PredictPairsSaid : Prop := predictPairsRow.holds Tryz.pinned (OpenSpec.ofChange predictPairsSpec)

/-- ITS FALSE NEIGHBOUR: 'it returns false'. Refute it at one input. -/
def predictPairsWrong : ChangeSpec := { name := "predictPairs", fn := fun _ => fun
  | [d] => { results := [.lit (.bool false)], args := [d] }
  | _ => none }
def PredictPairsWrongFalsely : Prop := predictPairsRow.holds Tryz.pinned (OpenSpec.ofChange predictPairsWrong)

/-- 'henkanlaw38.PredictScores': WHATEVER THE INPUT: true; the input reads as it did. -/
def predictScoresSpec : ChangeSpec := { name := "predictScores", fn := fun _ => fun
  | [d] => { results := [.lit (.bool true)], args := [d] }
  | _ => none }
def predictScoresRow : OpenClaim := { program := "ytjhajgffmnkocaagreatdoor", sum := "519e6fe416c092a7746f350dd272cce91c5848b03a4af48a0b40d7e857d25f64", func := "henkan/henkanlaw38.PredictScores", spec := "predictScores", inPlace := ["internal/bytealg.IndexByteString", "internal/bytealg.IndexString"], unfollowed := true, recurses := true, named := ["unicode/utf8.first", "unicode/utf8.acceptRanges", "henkan/crc.quarter", "internal/bytealg.MaxLen"], plainKeys := false, apart := false, laid := [("henkan/crc.quarter", laid_henkan_crc_quarter), ("unicode/utf8.acceptRanges", laid_unicode_utf8_acceptRanges), ("unicode/utf8.first", laid_unicode_utf8_first)] }
def PredictScoresSaid : Prop := predictScoresRow.holds Tryz.pinned (OpenSpec.ofChange predictScoresSpec)

/-- ITS FALSE NEIGHBOUR: 'it returns false'. Refute it at one input. -/
def predictScoresWrong : ChangeSpec := { name := "predictScores", fn := fun _ => fun
  | [d] => { results := [.lit (.bool false)], args := [d] }
  | _ => none }
def PredictScoresWrongFalsely : Prop := predictScoresRow.holds Tryz.pinned (OpenSpec.ofChange predictScoresWrong)

/-- 'henkanlaw38.PredictKnown': WHATEVER THE INPUT: true; the input reads as it did. -/
def predictKnownSpec : ChangeSpec := { name := "predictKnown", fn := fun _ => fun
  | [] => { results := [.lit (.bool true)], args := [] }
  | _ => none }
def predictKnownRow : OpenClaim := { program := "ytjhajgffmnkocaagreatdoor", sum := "519e6fe416c092a7746f350dd272cce91c5848b03a4af48a0b40d7e857d25f64", func := "henkan/henkanlaw38.PredictKnown", spec := "predictKnown", inPlace := ["internal/bytealg.IndexByteString", "internal/bytealg.IndexString"], unfollowed := true, recurses := true, named := ["unicode/utf8.first", "unicode/utf8.acceptRanges", "henkan/crc.quarter", "internal/bytealg.MaxLen"], plainKeys := false, apart := false, laid := [("henkan/crc.quarter", laid_henkan_crc_quarter), ("unicode/utf8.acceptRanges", laid_unicode_utf8_acceptRanges), ("unicode/utf8.first", laid_unicode_utf8_first)] }
def PredictKnownSaid : Prop := predictKnownRow.holds Tryz.pinned (OpenSpec.ofChange predictKnownSpec)

/-- ITS FALSE NEIGHBOUR: 'it returns false'. Refute it at one input. -/
def predictKnownWrong : ChangeSpec := { name := "predictKnown", fn := fun _ => fun
  | [] => { results := [.lit (.bool false)], args := [] }
  | _ => none }
def PredictKnownWrongFalsely : Prop := predictKnownRow.holds Tryz.pinned (OpenSpec.ofChange predictKnownWrong)

/- THE SECOND FORM. 'bulk': how many values and letters a reading holds, each counted each time it is reached (what is shared counts as often as it is met; a slice's spare places count too). A statement '..UptoSaid' is the law's where the arguments, and the package variables that the reading takes, are together of bulk at most 1048576: NARROWER than '..Said'. Prove '..Said' where nothing that the law and all that it calls make is longer than what came in: it says more and counts as full. Else prove '..UptoSaid'. A law counts once. -/
mutual
def uptoBulk {H : Type} : DataW H → Nat
  | .lit (.string bytes) => bytes.length + 1
  | .lit _ => 1
  | .nil => 1
  | .ptr d => uptoBulk d + 1
  | .slice elems spare => uptoBulkAll elems + uptoBulkAll spare + 1
  | .agg parts => uptoBulkAll parts + 1
  | .iface _ d => uptoBulk d + 1
  | .map entries => uptoBulkEntries entries + 1
  | .held _ => 1
def uptoBulkAll {H : Type} : List (DataW H) → Nat
  | [] => 0
  | d :: r => uptoBulk d + uptoBulkAll r
def uptoBulkEntries {H : Type} : List (Lit × DataW H) → Nat
  | [] => 0
  | x :: r => uptoBulkEntry x + uptoBulkEntries r
def uptoBulkEntry {H : Type} : Lit × DataW H → Nat
  | (.string bytes, d) => bytes.length + uptoBulk d + 1
  | (_, d) => uptoBulk d + 1
 end
def uptoSmall : (H : Type) → List (DataW H) → Bool := fun _ ds => decide (uptoBulkAll ds ≤ 1048576)
def OpenSpec.upto (s : _root_.Go.ChangeSpec) : _root_.Go.OpenSpec := { _root_.Go.OpenSpec.ofChange s with cond := some uptoSmall }

/-- 'henkanlaw38.PredictLists', WHERE WHAT IT READS IS OF BULK AT MOST 1048576: true; the input reads as it did. -/
def predictListsUptoRow : OpenClaim := { program := "ytjhajgffmnkocaagreatdoor", sum := "519e6fe416c092a7746f350dd272cce91c5848b03a4af48a0b40d7e857d25f64", func := "henkan/henkanlaw38.PredictLists", spec := "predictLists", inPlace := ["internal/bytealg.IndexByteString", "internal/bytealg.IndexString"], unfollowed := true, recurses := true, named := ["unicode/utf8.first", "unicode/utf8.acceptRanges", "henkan/crc.quarter", "internal/bytealg.MaxLen"], plainKeys := false, apart := false, laid := [("henkan/crc.quarter", laid_henkan_crc_quarter), ("unicode/utf8.acceptRanges", laid_unicode_utf8_acceptRanges), ("unicode/utf8.first", laid_unicode_utf8_first)], narrowed := true }
def PredictListsUptoSaid : Prop := predictListsUptoRow.holds Tryz.pinned (OpenSpec.upto predictListsSpec)

/-- 'henkanlaw38.PredictNone', WHERE WHAT IT READS IS OF BULK AT MOST 1048576: true; the input reads as it did. -/
def predictNoneUptoRow : OpenClaim := { program := "ytjhajgffmnkocaagreatdoor", sum := "519e6fe416c092a7746f350dd272cce91c5848b03a4af48a0b40d7e857d25f64", func := "henkan/henkanlaw38.PredictNone", spec := "predictNone", inPlace := ["internal/bytealg.IndexByteString", "internal/bytealg.IndexString"], unfollowed := true, recurses := true, named := ["unicode/utf8.first", "unicode/utf8.acceptRanges", "internal/bytealg.MaxLen", "henkan/crc.quarter"], plainKeys := false, apart := false, laid := [("henkan/crc.quarter", laid_henkan_crc_quarter), ("unicode/utf8.acceptRanges", laid_unicode_utf8_acceptRanges), ("unicode/utf8.first", laid_unicode_utf8_first)], narrowed := true }
def PredictNoneUptoSaid : Prop := predictNoneUptoRow.holds Tryz.pinned (OpenSpec.upto predictNoneSpec)

/-- 'henkanlaw38.PredictOrder', WHERE WHAT IT READS IS OF BULK AT MOST 1048576: true; the input reads as it did. -/
def predictOrderUptoRow : OpenClaim := { program := "ytjhajgffmnkocaagreatdoor", sum := "519e6fe416c092a7746f350dd272cce91c5848b03a4af48a0b40d7e857d25f64", func := "henkan/henkanlaw38.PredictOrder", spec := "predictOrder", inPlace := ["internal/bytealg.IndexByteString", "internal/bytealg.IndexString"], unfollowed := true, recurses := true, named := ["unicode/utf8.first", "unicode/utf8.acceptRanges", "henkan/crc.quarter", "internal/bytealg.MaxLen"], plainKeys := false, apart := false, laid := [("henkan/crc.quarter", laid_henkan_crc_quarter), ("unicode/utf8.acceptRanges", laid_unicode_utf8_acceptRanges), ("unicode/utf8.first", laid_unicode_utf8_first)], narrowed := true }
def PredictOrderUptoSaid : Prop := predictOrderUptoRow.holds Tryz.pinned (OpenSpec.upto predictOrderSpec)

/-- 'henkanlaw38.PredictFewer', WHERE WHAT IT READS IS OF BULK AT MOST 1048576: true; the input reads as it did. -/
def predictFewerUptoRow : OpenClaim := { program := "ytjhajgffmnkocaagreatdoor", sum := "519e6fe416c092a7746f350dd272cce91c5848b03a4af48a0b40d7e857d25f64", func := "henkan/henkanlaw38.PredictFewer", spec := "predictFewer", inPlace := ["internal/bytealg.IndexByteString", "internal/bytealg.IndexString"], unfollowed := true, recurses := true, named := ["unicode/utf8.first", "unicode/utf8.acceptRanges", "henkan/crc.quarter", "internal/bytealg.MaxLen"], plainKeys := false, apart := false, laid := [("henkan/crc.quarter", laid_henkan_crc_quarter), ("unicode/utf8.acceptRanges", laid_unicode_utf8_acceptRanges), ("unicode/utf8.first", laid_unicode_utf8_first)], narrowed := true }
def PredictFewerUptoSaid : Prop := predictFewerUptoRow.holds Tryz.pinned (OpenSpec.upto predictFewerSpec)

/-- 'henkanlaw38.PredictRises', WHERE WHAT IT READS IS OF BULK AT MOST 1048576: true; the input reads as it did. -/
def predictRisesUptoRow : OpenClaim := { program := "ytjhajgffmnkocaagreatdoor", sum := "519e6fe416c092a7746f350dd272cce91c5848b03a4af48a0b40d7e857d25f64", func := "henkan/henkanlaw38.PredictRises", spec := "predictRises", inPlace := ["internal/bytealg.IndexByteString", "internal/bytealg.IndexString"], unfollowed := true, recurses := true, named := ["unicode/utf8.first", "unicode/utf8.acceptRanges", "henkan/crc.quarter", "internal/bytealg.MaxLen"], plainKeys := false, apart := false, laid := [("henkan/crc.quarter", laid_henkan_crc_quarter), ("unicode/utf8.acceptRanges", laid_unicode_utf8_acceptRanges), ("unicode/utf8.first", laid_unicode_utf8_first)], narrowed := true }
def PredictRisesUptoSaid : Prop := predictRisesUptoRow.holds Tryz.pinned (OpenSpec.upto predictRisesSpec)

/-- 'henkanlaw38.PredictPairs', WHERE WHAT IT READS IS OF BULK AT MOST 1048576: true; the input reads as it did. -/
def predictPairsUptoRow : OpenClaim := { program := "ytjhajgffmnkocaagreatdoor", sum := "519e6fe416c092a7746f350dd272cce91c5848b03a4af48a0b40d7e857d25f64", func := "henkan/henkanlaw38.PredictPairs", spec := "predictPairs", inPlace := ["internal/bytealg.IndexByteString", "internal/bytealg.IndexString"], unfollowed := true, recurses := true, named := ["unicode/utf8.first", "unicode/utf8.acceptRanges", "henkan/crc.quarter", "internal/bytealg.MaxLen"], plainKeys := false, apart := false, laid := [("henkan/crc.quarter", laid_henkan_crc_quarter), ("unicode/utf8.acceptRanges", laid_unicode_utf8_acceptRanges), ("unicode/utf8.first", laid_unicode_utf8_first)], narrowed := true }
def PredictPairsUptoSaid : Prop := predictPairsUptoRow.holds Tryz.pinned (OpenSpec.upto predictPairsSpec)

/-- 'henkanlaw38.PredictScores', WHERE WHAT IT READS IS OF BULK AT MOST 1048576: true; the input reads as it did. -/
def predictScoresUptoRow : OpenClaim := { program := "ytjhajgffmnkocaagreatdoor", sum := "519e6fe416c092a7746f350dd272cce91c5848b03a4af48a0b40d7e857d25f64", func := "henkan/henkanlaw38.PredictScores", spec := "predictScores", inPlace := ["internal/bytealg.IndexByteString", "internal/bytealg.IndexString"], unfollowed := true, recurses := true, named := ["unicode/utf8.first", "unicode/utf8.acceptRanges", "henkan/crc.quarter", "internal/bytealg.MaxLen"], plainKeys := false, apart := false, laid := [("henkan/crc.quarter", laid_henkan_crc_quarter), ("unicode/utf8.acceptRanges", laid_unicode_utf8_acceptRanges), ("unicode/utf8.first", laid_unicode_utf8_first)], narrowed := true }
def PredictScoresUptoSaid : Prop := predictScoresUptoRow.holds Tryz.pinned (OpenSpec.upto predictScoresSpec)

/-- 'henkanlaw38.PredictKnown', WHERE WHAT IT READS IS OF BULK AT MOST 1048576: true; the input reads as it did. -/
def predictKnownUptoRow : OpenClaim := { program := "ytjhajgffmnkocaagreatdoor", sum := "519e6fe416c092a7746f350dd272cce91c5848b03a4af48a0b40d7e857d25f64", func := "henkan/henkanlaw38.PredictKnown", spec := "predictKnown", inPlace := ["internal/bytealg.IndexByteString", "internal/bytealg.IndexString"], unfollowed := true, recurses := true, named := ["unicode/utf8.first", "unicode/utf8.acceptRanges", "henkan/crc.quarter", "internal/bytealg.MaxLen"], plainKeys := false, apart := false, laid := [("henkan/crc.quarter", laid_henkan_crc_quarter), ("unicode/utf8.acceptRanges", laid_unicode_utf8_acceptRanges), ("unicode/utf8.first", laid_unicode_utf8_first)], narrowed := true }
def PredictKnownUptoSaid : Prop := predictKnownUptoRow.holds Tryz.pinned (OpenSpec.upto predictKnownSpec)

end Rows
end Go.Proofs.YtjhajgffmnkocaaGreatDoor
