/-
  NARROWER THAN 'FOR EVERY INPUT', by the rows' own cells (each row's printed sentence says how): DictImage: laid · DictAll: laid · DictOwn: laid · DictOrder: laid · DictKnown: laid.
  DERIVED. THE GIVEN ROWS OF THIS SEAT. 5 by the template 'for every input the law returns true; each argument reads behind the call as it read before'; 0 by the template 'total and deterministic' (their statements: YtheiocndipepaaaGreatDoorTotals.lean).
  GIVEN WITH THE SEED: the statements are not yours to turn. If you find one false, say at which input.
  Laid BY PROGRAM, IN A SANDBOX (cutbox-rows.mjs): the forced cells as the released guide's own fill.sh prints them over the translation 28e4774c36d6eaa6… (all of the seat's roots in one cut). By AI agents, Wed Nov 11 2026. No macro, syntax, notation, axiom, sorry.
-/
import Derived.Test.YtheiocndipepaaaGreatDoorChecked
import GoSem.PinnedTables
import GoSem.Claim
import GoSem.ClaimJoined
import GoSem.ClaimMapViews
import Derived.JoinedTies
import Derived.KernelRfl
namespace Go.Proofs.YtheiocndipepaaaGreatDoor
/- THE CELL 'sum', in the pinned program and in every row, IS THE sha256 OF THE DUMP (.gsa) THAT YtheiocndipepaaaGreatDoorProg.lean LOADS. Nothing in Lean hashes anything: it is a label: what it is worth is what the hold of that sum in a sandbox is worth. -/
noncomputable def Tryz.pinned : Pinned := { name := "ytheiocndipepaaagreatdoor", sum := "28e4774c36d6eaa6a5674f4e7d13b514f5dee628931b69f554cd8a4755e7fe98", checked := Tryz.checked }
namespace Rows
def none {H : Type} : Left H := { results := [], args := [] }

/- WHAT THE LISTED PACKAGE-LEVEL VARIABLES READ AS WHEN THE CALL BEGINS. Each datum BY PROGRAM (the guide's laid-datum.mjs) off the statement by which the dump's own 'gosem.cut.vars' lays the variable. In a bare row this is a premise. The card (YtheiocndipepaaaGreatDoorCards.lean) ties it to the program's text. -/
def laid_henkan_crc_quarter {H : Type} : DataW H := .agg [.lit (.int .u32 0), .lit (.int .u32 498536548), .lit (.int .u32 997073096), .lit (.int .u32 651767980), .lit (.int .u32 1994146192), .lit (.int .u32 1802195444), .lit (.int .u32 1303535960), .lit (.int .u32 1342533948), .lit (.int .u32 3988292384), .lit (.int .u32 4027552580), .lit (.int .u32 3604390888), .lit (.int .u32 3412177804), .lit (.int .u32 2607071920), .lit (.int .u32 2262029012), .lit (.int .u32 2685067896), .lit (.int .u32 3183342108)]
def laid_unicode_utf8_acceptRanges {H : Type} : DataW H := .agg [.agg [.lit (.int .u8 128), .lit (.int .u8 191)], .agg [.lit (.int .u8 160), .lit (.int .u8 191)], .agg [.lit (.int .u8 128), .lit (.int .u8 159)], .agg [.lit (.int .u8 144), .lit (.int .u8 191)], .agg [.lit (.int .u8 128), .lit (.int .u8 143)], .agg [.lit (.int .u8 0), .lit (.int .u8 0)], .agg [.lit (.int .u8 0), .lit (.int .u8 0)], .agg [.lit (.int .u8 0), .lit (.int .u8 0)], .agg [.lit (.int .u8 0), .lit (.int .u8 0)], .agg [.lit (.int .u8 0), .lit (.int .u8 0)], .agg [.lit (.int .u8 0), .lit (.int .u8 0)], .agg [.lit (.int .u8 0), .lit (.int .u8 0)], .agg [.lit (.int .u8 0), .lit (.int .u8 0)], .agg [.lit (.int .u8 0), .lit (.int .u8 0)], .agg [.lit (.int .u8 0), .lit (.int .u8 0)], .agg [.lit (.int .u8 0), .lit (.int .u8 0)]]
/-- One of Go's own tables, pinned by name: the form's constant. -/
def laid_unicode_utf8_first : DataW Unit := Go.Pinned.utf8First

/-- 'henkanlaw19.DictImage': WHATEVER THE INPUT: true; the input reads as it did. -/
def dictImageSpec : ChangeSpec := { name := "dictImage", fn := fun _ => fun
  | [d1, d2, d3] => { results := [.lit (.bool true)], args := [d1, d2, d3] }
  | _ => none }
def dictImageRow : OpenClaim := { program := "ytheiocndipepaaagreatdoor", sum := "28e4774c36d6eaa6a5674f4e7d13b514f5dee628931b69f554cd8a4755e7fe98", func := "henkan/henkanlaw19.DictImage", spec := "dictImage", unfollowed := true, recurses := true, named := ["unicode/utf8.first", "unicode/utf8.acceptRanges", "henkan/crc.quarter"], plainKeys := false, apart := false, laid := [("henkan/crc.quarter", laid_henkan_crc_quarter), ("unicode/utf8.acceptRanges", laid_unicode_utf8_acceptRanges), ("unicode/utf8.first", laid_unicode_utf8_first)] }
def DictImageSaid : Prop := dictImageRow.holds Tryz.pinned (OpenSpec.ofChange dictImageSpec)

/-- ITS FALSE NEIGHBOUR: 'it returns false'. Refute it at one input. -/
def dictImageWrong : ChangeSpec := { name := "dictImage", fn := fun _ => fun
  | [d1, d2, d3] => { results := [.lit (.bool false)], args := [d1, d2, d3] }
  | _ => none }
def DictImageWrongFalsely : Prop := dictImageRow.holds Tryz.pinned (OpenSpec.ofChange dictImageWrong)

/-- 'henkanlaw19.DictAll': WHATEVER THE INPUT: true; the input reads as it did. -/
def dictAllSpec : ChangeSpec := { name := "dictAll", fn := fun _ => fun
  | [d1, d2] => { results := [.lit (.bool true)], args := [d1, d2] }
  | _ => none }
def dictAllRow : OpenClaim := { program := "ytheiocndipepaaagreatdoor", sum := "28e4774c36d6eaa6a5674f4e7d13b514f5dee628931b69f554cd8a4755e7fe98", func := "henkan/henkanlaw19.DictAll", spec := "dictAll", unfollowed := true, recurses := true, named := ["unicode/utf8.first", "unicode/utf8.acceptRanges", "henkan/crc.quarter"], plainKeys := false, apart := false, laid := [("henkan/crc.quarter", laid_henkan_crc_quarter), ("unicode/utf8.acceptRanges", laid_unicode_utf8_acceptRanges), ("unicode/utf8.first", laid_unicode_utf8_first)] }
def DictAllSaid : Prop := dictAllRow.holds Tryz.pinned (OpenSpec.ofChange dictAllSpec)

/-- ITS FALSE NEIGHBOUR: 'it returns false'. Refute it at one input. -/
def dictAllWrong : ChangeSpec := { name := "dictAll", fn := fun _ => fun
  | [d1, d2] => { results := [.lit (.bool false)], args := [d1, d2] }
  | _ => none }
def DictAllWrongFalsely : Prop := dictAllRow.holds Tryz.pinned (OpenSpec.ofChange dictAllWrong)

/-- 'henkanlaw19.DictOwn': WHATEVER THE INPUT: true; the input reads as it did. -/
def dictOwnSpec : ChangeSpec := { name := "dictOwn", fn := fun _ => fun
  | [d] => { results := [.lit (.bool true)], args := [d] }
  | _ => none }
def dictOwnRow : OpenClaim := { program := "ytheiocndipepaaagreatdoor", sum := "28e4774c36d6eaa6a5674f4e7d13b514f5dee628931b69f554cd8a4755e7fe98", func := "henkan/henkanlaw19.DictOwn", spec := "dictOwn", unfollowed := true, recurses := true, named := ["unicode/utf8.first", "unicode/utf8.acceptRanges", "henkan/crc.quarter"], plainKeys := false, apart := false, laid := [("henkan/crc.quarter", laid_henkan_crc_quarter), ("unicode/utf8.acceptRanges", laid_unicode_utf8_acceptRanges), ("unicode/utf8.first", laid_unicode_utf8_first)] }
def DictOwnSaid : Prop := dictOwnRow.holds Tryz.pinned (OpenSpec.ofChange dictOwnSpec)

/-- ITS FALSE NEIGHBOUR: 'it returns false'. Refute it at one input. -/
def dictOwnWrong : ChangeSpec := { name := "dictOwn", fn := fun _ => fun
  | [d] => { results := [.lit (.bool false)], args := [d] }
  | _ => none }
def DictOwnWrongFalsely : Prop := dictOwnRow.holds Tryz.pinned (OpenSpec.ofChange dictOwnWrong)

/-- 'henkanlaw19.DictOrder': WHATEVER THE INPUT: true; the input reads as it did. -/
def dictOrderSpec : ChangeSpec := { name := "dictOrder", fn := fun _ => fun
  | [d1, d2] => { results := [.lit (.bool true)], args := [d1, d2] }
  | _ => none }
def dictOrderRow : OpenClaim := { program := "ytheiocndipepaaagreatdoor", sum := "28e4774c36d6eaa6a5674f4e7d13b514f5dee628931b69f554cd8a4755e7fe98", func := "henkan/henkanlaw19.DictOrder", spec := "dictOrder", unfollowed := true, recurses := true, named := ["unicode/utf8.first", "unicode/utf8.acceptRanges", "henkan/crc.quarter"], plainKeys := false, apart := false, laid := [("henkan/crc.quarter", laid_henkan_crc_quarter), ("unicode/utf8.acceptRanges", laid_unicode_utf8_acceptRanges), ("unicode/utf8.first", laid_unicode_utf8_first)] }
def DictOrderSaid : Prop := dictOrderRow.holds Tryz.pinned (OpenSpec.ofChange dictOrderSpec)

/-- ITS FALSE NEIGHBOUR: 'it returns false'. Refute it at one input. -/
def dictOrderWrong : ChangeSpec := { name := "dictOrder", fn := fun _ => fun
  | [d1, d2] => { results := [.lit (.bool false)], args := [d1, d2] }
  | _ => none }
def DictOrderWrongFalsely : Prop := dictOrderRow.holds Tryz.pinned (OpenSpec.ofChange dictOrderWrong)

/-- 'henkanlaw19.DictKnown': WHATEVER THE INPUT: true; the input reads as it did. -/
def dictKnownSpec : ChangeSpec := { name := "dictKnown", fn := fun _ => fun
  | [] => { results := [.lit (.bool true)], args := [] }
  | _ => none }
def dictKnownRow : OpenClaim := { program := "ytheiocndipepaaagreatdoor", sum := "28e4774c36d6eaa6a5674f4e7d13b514f5dee628931b69f554cd8a4755e7fe98", func := "henkan/henkanlaw19.DictKnown", spec := "dictKnown", unfollowed := true, recurses := true, named := ["unicode/utf8.first", "unicode/utf8.acceptRanges", "henkan/crc.quarter"], plainKeys := false, apart := false, laid := [("henkan/crc.quarter", laid_henkan_crc_quarter), ("unicode/utf8.acceptRanges", laid_unicode_utf8_acceptRanges), ("unicode/utf8.first", laid_unicode_utf8_first)] }
def DictKnownSaid : Prop := dictKnownRow.holds Tryz.pinned (OpenSpec.ofChange dictKnownSpec)

/-- ITS FALSE NEIGHBOUR: 'it returns false'. Refute it at one input. -/
def dictKnownWrong : ChangeSpec := { name := "dictKnown", fn := fun _ => fun
  | [] => { results := [.lit (.bool false)], args := [] }
  | _ => none }
def DictKnownWrongFalsely : Prop := dictKnownRow.holds Tryz.pinned (OpenSpec.ofChange dictKnownWrong)

/- THE SECOND FORM. 'bulk': how many values and letters a reading holds, each counted each time it is reached (what is shared counts as often as it is met; a slice's spare places count too). A statement '..UptoSaid' is the law's where the arguments, and the package variables that the reading takes, are together of bulk at most 1048576: NARROWER than '..Said'. Prove '..Said' where nothing that the law and all that it calls make is longer than what came in: it says more and counts as full. Else prove '..UptoSaid'. A law counts once. -/
mutual
def uptoBulk {H : Type} : DataW H → Nat
  | .lit (.string bytes) => bytes.length + 1
  | .lit _ => 1
  | .nil => 1
  | .ptr d => uptoBulk d + 1
  | .slice elems spare => uptoBulkAll elems + uptoBulkAll spare + 1
  | .agg parts => uptoBulkAll parts + 1
  | .iface _ d => uptoBulk d + 1
  | .map entries => uptoBulkEntries entries + 1
  | .held _ => 1
def uptoBulkAll {H : Type} : List (DataW H) → Nat
  | [] => 0
  | d :: r => uptoBulk d + uptoBulkAll r
def uptoBulkEntries {H : Type} : List (Lit × DataW H) → Nat
  | [] => 0
  | x :: r => uptoBulkEntry x + uptoBulkEntries r
def uptoBulkEntry {H : Type} : Lit × DataW H → Nat
  | (.string bytes, d) => bytes.length + uptoBulk d + 1
  | (_, d) => uptoBulk d + 1
 end
def uptoSmall : (H : Type) → List (DataW H) → Bool := fun _ ds => decide (uptoBulkAll ds ≤ 1048576)
def OpenSpec.upto (s : _root_.Go.ChangeSpec) : _root_.Go.OpenSpec := { _root_.Go.OpenSpec.ofChange s with cond := some uptoSmall }

/-- 'henkanlaw19.DictImage', WHERE WHAT IT READS IS OF BULK AT MOST 1048576: true; the input reads as it did. -/
def dictImageUptoRow : OpenClaim := { program := "ytheiocndipepaaagreatdoor", sum := "28e4774c36d6eaa6a5674f4e7d13b514f5dee628931b69f554cd8a4755e7fe98", func := "henkan/henkanlaw19.DictImage", spec := "dictImage", unfollowed := true, recurses := true, named := ["unicode/utf8.first", "unicode/utf8.acceptRanges", "henkan/crc.quarter"], plainKeys := false, apart := false, laid := [("henkan/crc.quarter", laid_henkan_crc_quarter), ("unicode/utf8.acceptRanges", laid_unicode_utf8_acceptRanges), ("unicode/utf8.first", laid_unicode_utf8_first)], narrowed := true }
def DictImageUptoSaid : Prop := dictImageUptoRow.holds Tryz.pinned (OpenSpec.upto dictImageSpec)

/-- 'henkanlaw19.DictAll', WHERE WHAT IT READS IS OF BULK AT MOST 1048576: true; the input reads as it did. -/
def dictAllUptoRow : OpenClaim := { program := "ytheiocndipepaaagreatdoor", sum := "28e4774c36d6eaa6a5674f4e7d13b514f5dee628931b69f554cd8a4755e7fe98", func := "henkan/henkanlaw19.DictAll", spec := "dictAll", unfollowed := true, recurses := true, named := ["unicode/utf8.first", "unicode/utf8.acceptRanges", "henkan/crc.quarter"], plainKeys := false, apart := false, laid := [("henkan/crc.quarter", laid_henkan_crc_quarter), ("unicode/utf8.acceptRanges", laid_unicode_utf8_acceptRanges), ("unicode/utf8.first", laid_unicode_utf8_first)], narrowed := true }
def DictAllUptoSaid : Prop := dictAllUptoRow.holds Tryz.pinned (OpenSpec.upto dictAllSpec)

/-- 'henkanlaw19.DictOwn', WHERE WHAT IT READS IS OF BULK AT MOST 1048576: true; the input reads as it did. -/
def dictOwnUptoRow : OpenClaim := { program := "ytheiocndipepaaagreatdoor", sum := "28e4774c36d6eaa6a5674f4e7d13b514f5dee628931b69f554cd8a4755e7fe98", func := "henkan/henkanlaw19.DictOwn", spec := "dictOwn", unfollowed := true, recurses := true, named := ["unicode/utf8.first", "unicode/utf8.acceptRanges", "henkan/crc.quarter"], plainKeys := false, apart := false, laid := [("henkan/crc.quarter", laid_henkan_crc_quarter), ("unicode/utf8.acceptRanges", laid_unicode_utf8_acceptRanges), ("unicode/utf8.first", laid_unicode_utf8_first)], narrowed := true }
def DictOwnUptoSaid : Prop := dictOwnUptoRow.holds Tryz.pinned (OpenSpec.upto dictOwnSpec)

/-- 'henkanlaw19.DictOrder', WHERE WHAT IT READS IS OF BULK AT MOST 1048576: true; the input reads as it did. -/
def dictOrderUptoRow : OpenClaim := { program := "ytheiocndipepaaagreatdoor", sum := "28e4774c36d6eaa6a5674f4e7d13b514f5dee628931b69f554cd8a4755e7fe98", func := "henkan/henkanlaw19.DictOrder", spec := "dictOrder", unfollowed := true, recurses := true, named := ["unicode/utf8.first", "unicode/utf8.acceptRanges", "henkan/crc.quarter"], plainKeys := false, apart := false, laid := [("henkan/crc.quarter", laid_henkan_crc_quarter), ("unicode/utf8.acceptRanges", laid_unicode_utf8_acceptRanges), ("unicode/utf8.first", laid_unicode_utf8_first)], narrowed := true }
def DictOrderUptoSaid : Prop := dictOrderUptoRow.holds Tryz.pinned (OpenSpec.upto dictOrderSpec)

/-- 'henkanlaw19.DictKnown', WHERE WHAT IT READS IS OF BULK AT MOST 1048576: true; the input reads as it did. -/
def dictKnownUptoRow : OpenClaim := { program := "ytheiocndipepaaagreatdoor", sum := "28e4774c36d6eaa6a5674f4e7d13b514f5dee628931b69f554cd8a4755e7fe98", func := "henkan/henkanlaw19.DictKnown", spec := "dictKnown", unfollowed := true, recurses := true, named := ["unicode/utf8.first", "unicode/utf8.acceptRanges", "henkan/crc.quarter"], plainKeys := false, apart := false, laid := [("henkan/crc.quarter", laid_henkan_crc_quarter), ("unicode/utf8.acceptRanges", laid_unicode_utf8_acceptRanges), ("unicode/utf8.first", laid_unicode_utf8_first)], narrowed := true }
def DictKnownUptoSaid : Prop := dictKnownUptoRow.holds Tryz.pinned (OpenSpec.upto dictKnownSpec)

end Rows
end Go.Proofs.YtheiocndipepaaaGreatDoor
