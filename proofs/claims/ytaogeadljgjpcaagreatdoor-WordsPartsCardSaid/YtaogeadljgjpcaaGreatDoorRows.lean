/-
  NARROWER THAN 'FOR EVERY INPUT', by the rows' own cells (each row's printed sentence says how): WordsChecks: laid · WordsNodes: laid · WordsNil: laid · WordsCover: laid · WordsFull: laid · WordsKnown: laid · WordsFound: laid · WordsLearns: laid · WordsParts: laid.
  DERIVED. THE GIVEN ROWS OF THIS SEAT. 9 by the template 'for every input the law returns true; each argument reads behind the call as it read before'; 0 by the template 'total and deterministic' (their statements: YtaogeadljgjpcaaGreatDoorTotals.lean).
  GIVEN WITH THE SEED: the statements are not yours to turn. If you find one false, say at which input.
  Laid BY PROGRAM, IN A SANDBOX (cutbox-rows.mjs): the forced cells as the released guide's own fill.sh prints them over the translation 9308888932bf10e3… (all of the seat's roots in one cut). By AI agents, Wed Nov 11 2026. No macro, syntax, notation, axiom, sorry.
-/
import Derived.Test.YtaogeadljgjpcaaGreatDoorChecked
import GoSem.PinnedTables
import GoSem.Claim
import GoSem.ClaimJoined
import GoSem.ClaimMapViews
import Derived.JoinedTies
import Derived.KernelRfl
namespace Go.Proofs.YtaogeadljgjpcaaGreatDoor
/- THE CELL 'sum', in the pinned program and in every row, IS THE sha256 OF THE DUMP (.gsa) THAT YtaogeadljgjpcaaGreatDoorProg.lean LOADS. Nothing in Lean hashes anything: it is a label: what it is worth is what the hold of that sum in a sandbox is worth. -/
noncomputable def Tryz.pinned : Pinned := { name := "ytaogeadljgjpcaagreatdoor", sum := "9308888932bf10e30cbc82f355312d120c7db1ab026acc47804a214b6631896b", checked := Tryz.checked }
namespace Rows
def none {H : Type} : Left H := { results := [], args := [] }

/- WHAT THE LISTED PACKAGE-LEVEL VARIABLES READ AS WHEN THE CALL BEGINS. Each datum BY PROGRAM (the guide's laid-datum.mjs) off the statement by which the dump's own 'gosem.cut.vars' lays the variable. In a bare row this is a premise. The card (YtaogeadljgjpcaaGreatDoorCards.lean) ties it to the program's text. -/
def laid_henkan_crc_quarter {H : Type} : DataW H := .agg [.lit (.int .u32 0), .lit (.int .u32 498536548), .lit (.int .u32 997073096), .lit (.int .u32 651767980), .lit (.int .u32 1994146192), .lit (.int .u32 1802195444), .lit (.int .u32 1303535960), .lit (.int .u32 1342533948), .lit (.int .u32 3988292384), .lit (.int .u32 4027552580), .lit (.int .u32 3604390888), .lit (.int .u32 3412177804), .lit (.int .u32 2607071920), .lit (.int .u32 2262029012), .lit (.int .u32 2685067896), .lit (.int .u32 3183342108)]
def laid_unicode_utf8_acceptRanges {H : Type} : DataW H := .agg [.agg [.lit (.int .u8 128), .lit (.int .u8 191)], .agg [.lit (.int .u8 160), .lit (.int .u8 191)], .agg [.lit (.int .u8 128), .lit (.int .u8 159)], .agg [.lit (.int .u8 144), .lit (.int .u8 191)], .agg [.lit (.int .u8 128), .lit (.int .u8 143)], .agg [.lit (.int .u8 0), .lit (.int .u8 0)], .agg [.lit (.int .u8 0), .lit (.int .u8 0)], .agg [.lit (.int .u8 0), .lit (.int .u8 0)], .agg [.lit (.int .u8 0), .lit (.int .u8 0)], .agg [.lit (.int .u8 0), .lit (.int .u8 0)], .agg [.lit (.int .u8 0), .lit (.int .u8 0)], .agg [.lit (.int .u8 0), .lit (.int .u8 0)], .agg [.lit (.int .u8 0), .lit (.int .u8 0)], .agg [.lit (.int .u8 0), .lit (.int .u8 0)], .agg [.lit (.int .u8 0), .lit (.int .u8 0)], .agg [.lit (.int .u8 0), .lit (.int .u8 0)]]
/-- One of Go's own tables, pinned by name: the form's constant. -/
def laid_unicode_utf8_first : DataW Unit := Go.Pinned.utf8First

/-- 'henkanlaw21.WordsChecks': WHATEVER THE INPUT: true; the input reads as it did. -/
def wordsChecksSpec : ChangeSpec := { name := "wordsChecks", fn := fun _ => fun
  | [d] => { results := [.lit (.bool true)], args := [d] }
  | _ => none }
def wordsChecksRow : OpenClaim := { program := "ytaogeadljgjpcaagreatdoor", sum := "9308888932bf10e30cbc82f355312d120c7db1ab026acc47804a214b6631896b", func := "henkan/henkanlaw21.WordsChecks", spec := "wordsChecks", unfollowed := true, recurses := true, named := ["unicode/utf8.first", "unicode/utf8.acceptRanges", "henkan/crc.quarter"], plainKeys := false, apart := false, laid := [("henkan/crc.quarter", laid_henkan_crc_quarter), ("unicode/utf8.acceptRanges", laid_unicode_utf8_acceptRanges), ("unicode/utf8.first", laid_unicode_utf8_first)] }
def WordsChecksSaid : Prop := wordsChecksRow.holds Tryz.pinned (OpenSpec.ofChange wordsChecksSpec)

/-- ITS FALSE NEIGHBOUR: 'it returns false'. Refute it at one input. -/
def wordsChecksWrong : ChangeSpec := { name := "wordsChecks", fn := fun _ => fun
  | [d] => { results := [.lit (.bool false)], args := [d] }
  | _ => none }
def WordsChecksWrongFalsely : Prop := wordsChecksRow.holds Tryz.pinned (OpenSpec.ofChange wordsChecksWrong)

/-- 'henkanlaw21.WordsNodes': WHATEVER THE INPUT: true; the input reads as it did. -/
def wordsNodesSpec : ChangeSpec := { name := "wordsNodes", fn := fun _ => fun
  | [d] => { results := [.lit (.bool true)], args := [d] }
  | _ => none }
def wordsNodesRow : OpenClaim := { program := "ytaogeadljgjpcaagreatdoor", sum := "9308888932bf10e30cbc82f355312d120c7db1ab026acc47804a214b6631896b", func := "henkan/henkanlaw21.WordsNodes", spec := "wordsNodes", unfollowed := true, recurses := true, named := ["unicode/utf8.first", "unicode/utf8.acceptRanges", "henkan/crc.quarter"], plainKeys := false, apart := false, laid := [("henkan/crc.quarter", laid_henkan_crc_quarter), ("unicode/utf8.acceptRanges", laid_unicode_utf8_acceptRanges), ("unicode/utf8.first", laid_unicode_utf8_first)] }
def WordsNodesSaid : Prop := wordsNodesRow.holds Tryz.pinned (OpenSpec.ofChange wordsNodesSpec)

/-- ITS FALSE NEIGHBOUR: 'it returns false'. Refute it at one input. -/
def wordsNodesWrong : ChangeSpec := { name := "wordsNodes", fn := fun _ => fun
  | [d] => { results := [.lit (.bool false)], args := [d] }
  | _ => none }
def WordsNodesWrongFalsely : Prop := wordsNodesRow.holds Tryz.pinned (OpenSpec.ofChange wordsNodesWrong)

/-- 'henkanlaw21.WordsNil': WHATEVER THE INPUT: true; the input reads as it did. -/
def wordsNilSpec : ChangeSpec := { name := "wordsNil", fn := fun _ => fun
  | [d] => { results := [.lit (.bool true)], args := [d] }
  | _ => none }
def wordsNilRow : OpenClaim := { program := "ytaogeadljgjpcaagreatdoor", sum := "9308888932bf10e30cbc82f355312d120c7db1ab026acc47804a214b6631896b", func := "henkan/henkanlaw21.WordsNil", spec := "wordsNil", unfollowed := true, recurses := true, named := ["unicode/utf8.first", "unicode/utf8.acceptRanges", "henkan/crc.quarter"], plainKeys := false, apart := false, laid := [("henkan/crc.quarter", laid_henkan_crc_quarter), ("unicode/utf8.acceptRanges", laid_unicode_utf8_acceptRanges), ("unicode/utf8.first", laid_unicode_utf8_first)] }
def WordsNilSaid : Prop := wordsNilRow.holds Tryz.pinned (OpenSpec.ofChange wordsNilSpec)

/-- ITS FALSE NEIGHBOUR: 'it returns false'. Refute it at one input. -/
def wordsNilWrong : ChangeSpec := { name := "wordsNil", fn := fun _ => fun
  | [d] => { results := [.lit (.bool false)], args := [d] }
  | _ => none }
def WordsNilWrongFalsely : Prop := wordsNilRow.holds Tryz.pinned (OpenSpec.ofChange wordsNilWrong)

/-- 'henkanlaw21.WordsCover': WHATEVER THE INPUT: true; the input reads as it did. -/
def wordsCoverSpec : ChangeSpec := { name := "wordsCover", fn := fun _ => fun
  | [d] => { results := [.lit (.bool true)], args := [d] }
  | _ => none }
def wordsCoverRow : OpenClaim := { program := "ytaogeadljgjpcaagreatdoor", sum := "9308888932bf10e30cbc82f355312d120c7db1ab026acc47804a214b6631896b", func := "henkan/henkanlaw21.WordsCover", spec := "wordsCover", unfollowed := true, recurses := true, named := ["unicode/utf8.first", "unicode/utf8.acceptRanges", "henkan/crc.quarter"], plainKeys := false, apart := false, laid := [("henkan/crc.quarter", laid_henkan_crc_quarter), ("unicode/utf8.acceptRanges", laid_unicode_utf8_acceptRanges), ("unicode/utf8.first", laid_unicode_utf8_first)] }
def WordsCoverSaid : Prop := wordsCoverRow.holds Tryz.pinned (OpenSpec.ofChange wordsCoverSpec)

/-- ITS FALSE NEIGHBOUR: 'it returns false'. Refute it at one input. -/
def wordsCoverWrong : ChangeSpec := { name := "wordsCover", fn := fun _ => fun
  | [d] => { results := [.lit (.bool false)], args := [d] }
  | _ => none }
def WordsCoverWrongFalsely : Prop := wordsCoverRow.holds Tryz.pinned (OpenSpec.ofChange wordsCoverWrong)

/-- 'henkanlaw21.WordsFull': WHATEVER THE INPUT: true; the input reads as it did. -/
def wordsFullSpec : ChangeSpec := { name := "wordsFull", fn := fun _ => fun
  | [d] => { results := [.lit (.bool true)], args := [d] }
  | _ => none }
def wordsFullRow : OpenClaim := { program := "ytaogeadljgjpcaagreatdoor", sum := "9308888932bf10e30cbc82f355312d120c7db1ab026acc47804a214b6631896b", func := "henkan/henkanlaw21.WordsFull", spec := "wordsFull", unfollowed := true, recurses := true, named := ["unicode/utf8.first", "unicode/utf8.acceptRanges", "henkan/crc.quarter"], plainKeys := false, apart := false, laid := [("henkan/crc.quarter", laid_henkan_crc_quarter), ("unicode/utf8.acceptRanges", laid_unicode_utf8_acceptRanges), ("unicode/utf8.first", laid_unicode_utf8_first)] }
def WordsFullSaid : Prop := wordsFullRow.holds Tryz.pinned (OpenSpec.ofChange wordsFullSpec)

/-- ITS FALSE NEIGHBOUR: 'it returns false'. Refute it at one input. -/
def wordsFullWrong : ChangeSpec := { name := "wordsFull", fn := fun _ => fun
  | [d] => { results := [.lit (.bool false)], args := [d] }
  | _ => none }
def WordsFullWrongFalsely : Prop := wordsFullRow.holds Tryz.pinned (OpenSpec.ofChange wordsFullWrong)

/-- 'henkanlaw21.WordsKnown': WHATEVER THE INPUT: true; the input reads as it did. -/
def wordsKnownSpec : ChangeSpec := { name := "wordsKnown", fn := fun _ => fun
  | [] => { results := [.lit (.bool true)], args := [] }
  | _ => none }
def wordsKnownRow : OpenClaim := { program := "ytaogeadljgjpcaagreatdoor", sum := "9308888932bf10e30cbc82f355312d120c7db1ab026acc47804a214b6631896b", func := "henkan/henkanlaw21.WordsKnown", spec := "wordsKnown", unfollowed := true, recurses := true, named := ["unicode/utf8.first", "unicode/utf8.acceptRanges", "henkan/crc.quarter"], plainKeys := false, apart := false, laid := [("henkan/crc.quarter", laid_henkan_crc_quarter), ("unicode/utf8.acceptRanges", laid_unicode_utf8_acceptRanges), ("unicode/utf8.first", laid_unicode_utf8_first)] }
def WordsKnownSaid : Prop := wordsKnownRow.holds Tryz.pinned (OpenSpec.ofChange wordsKnownSpec)

/-- ITS FALSE NEIGHBOUR: 'it returns false'. Refute it at one input. -/
def wordsKnownWrong : ChangeSpec := { name := "wordsKnown", fn := fun _ => fun
  | [] => { results := [.lit (.bool false)], args := [] }
  | _ => none }
def WordsKnownWrongFalsely : Prop := wordsKnownRow.holds Tryz.pinned (OpenSpec.ofChange wordsKnownWrong)

/-- 'henkanlaw21.WordsFound': WHATEVER THE INPUT: true; the input reads as it did. -/
def wordsFoundSpec : ChangeSpec := { name := "wordsFound", fn := fun _ => fun
  | [d1, d2, d3] => { results := [.lit (.bool true)], args := [d1, d2, d3] }
  | _ => none }
def wordsFoundRow : OpenClaim := { program := "ytaogeadljgjpcaagreatdoor", sum := "9308888932bf10e30cbc82f355312d120c7db1ab026acc47804a214b6631896b", func := "henkan/henkanlaw21.WordsFound", spec := "wordsFound", unfollowed := true, recurses := true, named := ["unicode/utf8.first", "unicode/utf8.acceptRanges", "henkan/crc.quarter"], plainKeys := false, apart := false, laid := [("henkan/crc.quarter", laid_henkan_crc_quarter), ("unicode/utf8.acceptRanges", laid_unicode_utf8_acceptRanges), ("unicode/utf8.first", laid_unicode_utf8_first)] }
def WordsFoundSaid : Prop := wordsFoundRow.holds Tryz.pinned (OpenSpec.ofChange wordsFoundSpec)

/-- ITS FALSE NEIGHBOUR: 'it returns false'. Refute it at one input. -/
def wordsFoundWrong : ChangeSpec := { name := "wordsFound", fn := fun _ => fun
  | [d1, d2, d3] => { results := [.lit (.bool false)], args := [d1, d2, d3] }
  | _ => none }
def WordsFoundWrongFalsely : Prop := wordsFoundRow.holds Tryz.pinned (OpenSpec.ofChange wordsFoundWrong)

/-- 'henkanlaw21.WordsLearns': WHATEVER THE INPUT: true; the input reads as it did. -/
def wordsLearnsSpec : ChangeSpec := { name := "wordsLearns", fn := fun _ => fun
  | [d1, d2] => { results := [.lit (.bool true)], args := [d1, d2] }
  | _ => none }
def wordsLearnsRow : OpenClaim := { program := "ytaogeadljgjpcaagreatdoor", sum := "9308888932bf10e30cbc82f355312d120c7db1ab026acc47804a214b6631896b", func := "henkan/henkanlaw21.WordsLearns", spec := "wordsLearns", unfollowed := true, recurses := true, named := ["unicode/utf8.first", "unicode/utf8.acceptRanges", "henkan/crc.quarter"], plainKeys := false, apart := false, laid := [("henkan/crc.quarter", laid_henkan_crc_quarter), ("unicode/utf8.acceptRanges", laid_unicode_utf8_acceptRanges), ("unicode/utf8.first", laid_unicode_utf8_first)] }
def WordsLearnsSaid : Prop := wordsLearnsRow.holds Tryz.pinned (OpenSpec.ofChange wordsLearnsSpec)

/-- ITS FALSE NEIGHBOUR: 'it returns false'. Refute it at one input. -/
def wordsLearnsWrong : ChangeSpec := { name := "wordsLearns", fn := fun _ => fun
  | [d1, d2] => { results := [.lit (.bool false)], args := [d1, d2] }
  | _ => none }
def WordsLearnsWrongFalsely : Prop := wordsLearnsRow.holds Tryz.pinned (OpenSpec.ofChange wordsLearnsWrong)

/-- 'henkanlaw21.WordsParts': WHATEVER THE INPUT: true; the input reads as it did. -/
def wordsPartsSpec : ChangeSpec := { name := "wordsParts", fn := fun _ => fun
  | [d1, d2, d3] => { results := [.lit (.bool true)], args := [d1, d2, d3] }
  | _ => none }
def wordsPartsRow : OpenClaim := { program := "ytaogeadljgjpcaagreatdoor", sum := "9308888932bf10e30cbc82f355312d120c7db1ab026acc47804a214b6631896b", func := "henkan/henkanlaw21.WordsParts", spec := "wordsParts", unfollowed := true, recurses := true, named := ["unicode/utf8.first", "unicode/utf8.acceptRanges", "henkan/crc.quarter"], plainKeys := false, apart := false, laid := [("henkan/crc.quarter", laid_henkan_crc_quarter), ("unicode/utf8.acceptRanges", laid_unicode_utf8_acceptRanges), ("unicode/utf8.first", laid_unicode_utf8_first)] }
def WordsPartsSaid : Prop := wordsPartsRow.holds Tryz.pinned (OpenSpec.ofChange wordsPartsSpec)

/-- ITS FALSE NEIGHBOUR: 'it returns false'. Refute it at one input. -/
def wordsPartsWrong : ChangeSpec := { name := "wordsParts", fn := fun _ => fun
  | [d1, d2, d3] => { results := [.lit (.bool false)], args := [d1, d2, d3] }
  | _ => none }
def WordsPartsWrongFalsely : Prop := wordsPartsRow.holds Tryz.pinned (OpenSpec.ofChange wordsPartsWrong)

/- THE SECOND FORM. 'bulk': how many values and letters a reading holds, each counted each time it is reached (what is shared counts as often as it is met; a slice's spare places count too). A statement '..UptoSaid' is the law's where the arguments, and the package variables that the reading takes, are together of bulk at most 1048576: NARROWER than '..Said'. Prove '..Said' where nothing that the law and all that it calls make is longer than what came in: it says more and counts as full. Else prove '..UptoSaid'. A law counts once. -/
mutual
def uptoBulk {H : Type} : DataW H → Nat
  | .lit (.string bytes) => bytes.length + 1
  | .lit _ => 1
  | .nil => 1
  | .ptr d => uptoBulk d + 1
  | .slice elems spare => uptoBulkAll elems + uptoBulkAll spare + 1
  | .agg parts => uptoBulkAll parts + 1
  | .iface _ d => uptoBulk d + 1
  | .map entries => uptoBulkEntries entries + 1
  | .held _ => 1
def uptoBulkAll {H : Type} : List (DataW H) → Nat
  | [] => 0
  | d :: r => uptoBulk d + uptoBulkAll r
def uptoBulkEntries {H : Type} : List (Lit × DataW H) → Nat
  | [] => 0
  | x :: r => uptoBulkEntry x + uptoBulkEntries r
def uptoBulkEntry {H : Type} : Lit × DataW H → Nat
  | (.string bytes, d) => bytes.length + uptoBulk d + 1
  | (_, d) => uptoBulk d + 1
 end
def uptoSmall : (H : Type) → List (DataW H) → Bool := fun _ ds => decide (uptoBulkAll ds ≤ 1048576)
def OpenSpec.upto (s : _root_.Go.ChangeSpec) : _root_.Go.OpenSpec := { _root_.Go.OpenSpec.ofChange s with cond := some uptoSmall }

/-- 'henkanlaw21.WordsChecks', WHERE WHAT IT READS IS OF BULK AT MOST 1048576: true; the input reads as it did. -/
def wordsChecksUptoRow : OpenClaim := { program := "ytaogeadljgjpcaagreatdoor", sum := "9308888932bf10e30cbc82f355312d120c7db1ab026acc47804a214b6631896b", func := "henkan/henkanlaw21.WordsChecks", spec := "wordsChecks", unfollowed := true, recurses := true, named := ["unicode/utf8.first", "unicode/utf8.acceptRanges", "henkan/crc.quarter"], plainKeys := false, apart := false, laid := [("henkan/crc.quarter", laid_henkan_crc_quarter), ("unicode/utf8.acceptRanges", laid_unicode_utf8_acceptRanges), ("unicode/utf8.first", laid_unicode_utf8_first)], narrowed := true }
def WordsChecksUptoSaid : Prop := wordsChecksUptoRow.holds Tryz.pinned (OpenSpec.upto wordsChecksSpec)

/-- 'henkanlaw21.WordsNodes', WHERE WHAT IT READS IS OF BULK AT MOST 1048576: true; the input reads as it did. -/
def wordsNodesUptoRow : OpenClaim := { program := "ytaogeadljgjpcaagreatdoor", sum := "9308888932bf10e30cbc82f355312d120c7db1ab026acc47804a214b6631896b", func := "henkan/henkanlaw21.WordsNodes", spec := "wordsNodes", unfollowed := true, recurses := true, named := ["unicode/utf8.first", "unicode/utf8.acceptRanges", "henkan/crc.quarter"], plainKeys := false, apart := false, laid := [("henkan/crc.quarter", laid_henkan_crc_quarter), ("unicode/utf8.acceptRanges", laid_unicode_utf8_acceptRanges), ("unicode/utf8.first", laid_unicode_utf8_first)], narrowed := true }
def WordsNodesUptoSaid : Prop := wordsNodesUptoRow.holds Tryz.pinned (OpenSpec.upto wordsNodesSpec)

/-- 'henkanlaw21.WordsNil', WHERE WHAT IT READS IS OF BULK AT MOST 1048576: true; the input reads as it did. -/
def wordsNilUptoRow : OpenClaim := { program := "ytaogeadljgjpcaagreatdoor", sum := "9308888932bf10e30cbc82f355312d120c7db1ab026acc47804a214b6631896b", func := "henkan/henkanlaw21.WordsNil", spec := "wordsNil", unfollowed := true, recurses := true, named := ["unicode/utf8.first", "unicode/utf8.acceptRanges", "henkan/crc.quarter"], plainKeys := false, apart := false, laid := [("henkan/crc.quarter", laid_henkan_crc_quarter), ("unicode/utf8.acceptRanges", laid_unicode_utf8_acceptRanges), ("unicode/utf8.first", laid_unicode_utf8_first)], narrowed := true }
def WordsNilUptoSaid : Prop := wordsNilUptoRow.holds Tryz.pinned (OpenSpec.upto wordsNilSpec)

/-- 'henkanlaw21.WordsCover', WHERE WHAT IT READS IS OF BULK AT MOST 1048576: true; the input reads as it did. -/
def wordsCoverUptoRow : OpenClaim := { program := "ytaogeadljgjpcaagreatdoor", sum := "9308888932bf10e30cbc82f355312d120c7db1ab026acc47804a214b6631896b", func := "henkan/henkanlaw21.WordsCover", spec := "wordsCover", unfollowed := true, recurses := true, named := ["unicode/utf8.first", "unicode/utf8.acceptRanges", "henkan/crc.quarter"], plainKeys := false, apart := false, laid := [("henkan/crc.quarter", laid_henkan_crc_quarter), ("unicode/utf8.acceptRanges", laid_unicode_utf8_acceptRanges), ("unicode/utf8.first", laid_unicode_utf8_first)], narrowed := true }
def WordsCoverUptoSaid : Prop := wordsCoverUptoRow.holds Tryz.pinned (OpenSpec.upto wordsCoverSpec)

/-- 'henkanlaw21.WordsFull', WHERE WHAT IT READS IS OF BULK AT MOST 1048576: true; the input reads as it did. -/
def wordsFullUptoRow : OpenClaim := { program := "ytaogeadljgjpcaagreatdoor", sum := "9308888932bf10e30cbc82f355312d120c7db1ab026acc47804a214b6631896b", func := "henkan/henkanlaw21.WordsFull", spec := "wordsFull", unfollowed := true, recurses := true, named := ["unicode/utf8.first", "unicode/utf8.acceptRanges", "henkan/crc.quarter"], plainKeys := false, apart := false, laid := [("henkan/crc.quarter", laid_henkan_crc_quarter), ("unicode/utf8.acceptRanges", laid_unicode_utf8_acceptRanges), ("unicode/utf8.first", laid_unicode_utf8_first)], narrowed := true }
def WordsFullUptoSaid : Prop := wordsFullUptoRow.holds Tryz.pinned (OpenSpec.upto wordsFullSpec)

/-- 'henkanlaw21.WordsKnown', WHERE WHAT IT READS IS OF BULK AT MOST 1048576: true; the input reads as it did. -/
def wordsKnownUptoRow : OpenClaim := { program := "ytaogeadljgjpcaagreatdoor", sum := "9308888932bf10e30cbc82f355312d120c7db1ab026acc47804a214b6631896b", func := "henkan/henkanlaw21.WordsKnown", spec := "wordsKnown", unfollowed := true, recurses := true, named := ["unicode/utf8.first", "unicode/utf8.acceptRanges", "henkan/crc.quarter"], plainKeys := false, apart := false, laid := [("henkan/crc.quarter", laid_henkan_crc_quarter), ("unicode/utf8.acceptRanges", laid_unicode_utf8_acceptRanges), ("unicode/utf8.first", laid_unicode_utf8_first)], narrowed := true }
def WordsKnownUptoSaid : Prop := wordsKnownUptoRow.holds Tryz.pinned (OpenSpec.upto wordsKnownSpec)

/-- 'henkanlaw21.WordsFound', WHERE WHAT IT READS IS OF BULK AT MOST 1048576: true; the input reads as it did. -/
def wordsFoundUptoRow : OpenClaim := { program := "ytaogeadljgjpcaagreatdoor", sum := "9308888932bf10e30cbc82f355312d120c7db1ab026acc47804a214b6631896b", func := "henkan/henkanlaw21.WordsFound", spec := "wordsFound", unfollowed := true, recurses := true, named := ["unicode/utf8.first", "unicode/utf8.acceptRanges", "henkan/crc.quarter"], plainKeys := false, apart := false, laid := [("henkan/crc.quarter", laid_henkan_crc_quarter), ("unicode/utf8.acceptRanges", laid_unicode_utf8_acceptRanges), ("unicode/utf8.first", laid_unicode_utf8_first)], narrowed := true }
def WordsFoundUptoSaid : Prop := wordsFoundUptoRow.holds Tryz.pinned (OpenSpec.upto wordsFoundSpec)

/-- 'henkanlaw21.WordsLearns', WHERE WHAT IT READS IS OF BULK AT MOST 1048576: true; the input reads as it did. -/
def wordsLearnsUptoRow : OpenClaim := { program := "ytaogeadljgjpcaagreatdoor", sum := "9308888932bf10e30cbc82f355312d120c7db1ab026acc47804a214b6631896b", func := "henkan/henkanlaw21.WordsLearns", spec := "wordsLearns", unfollowed := true, recurses := true, named := ["unicode/utf8.first", "unicode/utf8.acceptRanges", "henkan/crc.quarter"], plainKeys := false, apart := false, laid := [("henkan/crc.quarter", laid_henkan_crc_quarter), ("unicode/utf8.acceptRanges", laid_unicode_utf8_acceptRanges), ("unicode/utf8.first", laid_unicode_utf8_first)], narrowed := true }
def WordsLearnsUptoSaid : Prop := wordsLearnsUptoRow.holds Tryz.pinned (OpenSpec.upto wordsLearnsSpec)

/-- 'henkanlaw21.WordsParts', WHERE WHAT IT READS IS OF BULK AT MOST 1048576: true; the input reads as it did. -/
def wordsPartsUptoRow : OpenClaim := { program := "ytaogeadljgjpcaagreatdoor", sum := "9308888932bf10e30cbc82f355312d120c7db1ab026acc47804a214b6631896b", func := "henkan/henkanlaw21.WordsParts", spec := "wordsParts", unfollowed := true, recurses := true, named := ["unicode/utf8.first", "unicode/utf8.acceptRanges", "henkan/crc.quarter"], plainKeys := false, apart := false, laid := [("henkan/crc.quarter", laid_henkan_crc_quarter), ("unicode/utf8.acceptRanges", laid_unicode_utf8_acceptRanges), ("unicode/utf8.first", laid_unicode_utf8_first)], narrowed := true }
def WordsPartsUptoSaid : Prop := wordsPartsUptoRow.holds Tryz.pinned (OpenSpec.upto wordsPartsSpec)

end Rows
end Go.Proofs.YtaogeadljgjpcaaGreatDoor
