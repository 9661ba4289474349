/-
  NARROWER THAN 'FOR EVERY INPUT', by the rows' own cells (each row's printed sentence says how): BuilderBuilds: laid · BuilderSizes: laid · BuilderOrder: laid · BuilderHolds: laid.
  DERIVED. THE GIVEN ROWS OF THIS SEAT. 4 by the template 'for every input the law returns true; each argument reads behind the call as it read before'; 0 by the template 'total and deterministic' (their statements: YtepoiefadjoabaaGreatDoorTotals.lean).
  GIVEN WITH THE SEED: the statements are not yours to turn. If you find one false, say at which input.
  Laid BY PROGRAM, IN A SANDBOX (cutbox-rows.mjs): the forced cells as the released guide's own fill.sh prints them over the translation 45ccc6aef9ab264c… (all of the seat's roots in one cut). By AI agents, Wed Nov 11 2026. No macro, syntax, notation, axiom, sorry.
-/
import Derived.Test.YtepoiefadjoabaaGreatDoorChecked
import GoSem.PinnedTables
import GoSem.Claim
import GoSem.ClaimJoined
import GoSem.ClaimMapViews
import Derived.JoinedTies
import Derived.KernelRfl
namespace Go.Proofs.YtepoiefadjoabaaGreatDoor
/- THE CELL 'sum', in the pinned program and in every row, IS THE sha256 OF THE DUMP (.gsa) THAT YtepoiefadjoabaaGreatDoorProg.lean LOADS. Nothing in Lean hashes anything: it is a label: what it is worth is what the hold of that sum in a sandbox is worth. -/
noncomputable def Tryz.pinned : Pinned := { name := "ytepoiefadjoabaagreatdoor", sum := "45ccc6aef9ab264ce491e1d00d9ecb3447983635c804520794598dfac54e0dfd", checked := Tryz.checked }
namespace Rows
def none {H : Type} : Left H := { results := [], args := [] }

/- WHAT THE LISTED PACKAGE-LEVEL VARIABLES READ AS WHEN THE CALL BEGINS. Each datum BY PROGRAM (the guide's laid-datum.mjs) off the statement by which the dump's own 'gosem.cut.vars' lays the variable. In a bare row this is a premise. The card (YtepoiefadjoabaaGreatDoorCards.lean) ties it to the program's text. -/
def laid_henkan_crc_quarter {H : Type} : DataW H := .agg [.lit (.int .u32 0), .lit (.int .u32 498536548), .lit (.int .u32 997073096), .lit (.int .u32 651767980), .lit (.int .u32 1994146192), .lit (.int .u32 1802195444), .lit (.int .u32 1303535960), .lit (.int .u32 1342533948), .lit (.int .u32 3988292384), .lit (.int .u32 4027552580), .lit (.int .u32 3604390888), .lit (.int .u32 3412177804), .lit (.int .u32 2607071920), .lit (.int .u32 2262029012), .lit (.int .u32 2685067896), .lit (.int .u32 3183342108)]
def laid_unicode_utf8_acceptRanges {H : Type} : DataW H := .agg [.agg [.lit (.int .u8 128), .lit (.int .u8 191)], .agg [.lit (.int .u8 160), .lit (.int .u8 191)], .agg [.lit (.int .u8 128), .lit (.int .u8 159)], .agg [.lit (.int .u8 144), .lit (.int .u8 191)], .agg [.lit (.int .u8 128), .lit (.int .u8 143)], .agg [.lit (.int .u8 0), .lit (.int .u8 0)], .agg [.lit (.int .u8 0), .lit (.int .u8 0)], .agg [.lit (.int .u8 0), .lit (.int .u8 0)], .agg [.lit (.int .u8 0), .lit (.int .u8 0)], .agg [.lit (.int .u8 0), .lit (.int .u8 0)], .agg [.lit (.int .u8 0), .lit (.int .u8 0)], .agg [.lit (.int .u8 0), .lit (.int .u8 0)], .agg [.lit (.int .u8 0), .lit (.int .u8 0)], .agg [.lit (.int .u8 0), .lit (.int .u8 0)], .agg [.lit (.int .u8 0), .lit (.int .u8 0)], .agg [.lit (.int .u8 0), .lit (.int .u8 0)]]
/-- One of Go's own tables, pinned by name: the form's constant. -/
def laid_unicode_utf8_first : DataW Unit := Go.Pinned.utf8First

/-- 'henkanlaw18.BuilderBuilds': WHATEVER THE INPUT: true; the input reads as it did. -/
def builderBuildsSpec : ChangeSpec := { name := "builderBuilds", fn := fun _ => fun
  | [d] => { results := [.lit (.bool true)], args := [d] }
  | _ => none }
def builderBuildsRow : OpenClaim := { program := "ytepoiefadjoabaagreatdoor", sum := "45ccc6aef9ab264ce491e1d00d9ecb3447983635c804520794598dfac54e0dfd", func := "henkan/henkanlaw18.BuilderBuilds", spec := "builderBuilds", unfollowed := true, recurses := true, named := ["unicode/utf8.first", "unicode/utf8.acceptRanges", "henkan/crc.quarter"], plainKeys := false, apart := false, laid := [("henkan/crc.quarter", laid_henkan_crc_quarter), ("unicode/utf8.acceptRanges", laid_unicode_utf8_acceptRanges), ("unicode/utf8.first", laid_unicode_utf8_first)] }
def BuilderBuildsSaid : Prop := builderBuildsRow.holds Tryz.pinned (OpenSpec.ofChange builderBuildsSpec)

/-- ITS FALSE NEIGHBOUR: 'it returns false'. Refute it at one input. -/
def builderBuildsWrong : ChangeSpec := { name := "builderBuilds", fn := fun _ => fun
  | [d] => { results := [.lit (.bool false)], args := [d] }
  | _ => none }
def BuilderBuildsWrongFalsely : Prop := builderBuildsRow.holds Tryz.pinned (OpenSpec.ofChange builderBuildsWrong)

/-- 'henkanlaw18.BuilderSizes': WHATEVER THE INPUT: true; the input reads as it did. -/
def builderSizesSpec : ChangeSpec := { name := "builderSizes", fn := fun _ => fun
  | [d1, d2] => { results := [.lit (.bool true)], args := [d1, d2] }
  | _ => none }
def builderSizesRow : OpenClaim := { program := "ytepoiefadjoabaagreatdoor", sum := "45ccc6aef9ab264ce491e1d00d9ecb3447983635c804520794598dfac54e0dfd", func := "henkan/henkanlaw18.BuilderSizes", spec := "builderSizes", unfollowed := true, recurses := true, named := ["unicode/utf8.first", "unicode/utf8.acceptRanges", "henkan/crc.quarter"], plainKeys := false, apart := false, laid := [("henkan/crc.quarter", laid_henkan_crc_quarter), ("unicode/utf8.acceptRanges", laid_unicode_utf8_acceptRanges), ("unicode/utf8.first", laid_unicode_utf8_first)] }
def BuilderSizesSaid : Prop := builderSizesRow.holds Tryz.pinned (OpenSpec.ofChange builderSizesSpec)

/-- ITS FALSE NEIGHBOUR: 'it returns false'. Refute it at one input. -/
def builderSizesWrong : ChangeSpec := { name := "builderSizes", fn := fun _ => fun
  | [d1, d2] => { results := [.lit (.bool false)], args := [d1, d2] }
  | _ => none }
def BuilderSizesWrongFalsely : Prop := builderSizesRow.holds Tryz.pinned (OpenSpec.ofChange builderSizesWrong)

/-- 'henkanlaw18.BuilderOrder': WHATEVER THE INPUT: true; the input reads as it did. -/
def builderOrderSpec : ChangeSpec := { name := "builderOrder", fn := fun _ => fun
  | [d1, d2] => { results := [.lit (.bool true)], args := [d1, d2] }
  | _ => none }
def builderOrderRow : OpenClaim := { program := "ytepoiefadjoabaagreatdoor", sum := "45ccc6aef9ab264ce491e1d00d9ecb3447983635c804520794598dfac54e0dfd", func := "henkan/henkanlaw18.BuilderOrder", spec := "builderOrder", unfollowed := true, recurses := true, named := ["unicode/utf8.first", "unicode/utf8.acceptRanges", "henkan/crc.quarter"], plainKeys := false, apart := false, laid := [("henkan/crc.quarter", laid_henkan_crc_quarter), ("unicode/utf8.acceptRanges", laid_unicode_utf8_acceptRanges), ("unicode/utf8.first", laid_unicode_utf8_first)] }
def BuilderOrderSaid : Prop := builderOrderRow.holds Tryz.pinned (OpenSpec.ofChange builderOrderSpec)

/-- ITS FALSE NEIGHBOUR: 'it returns false'. Refute it at one input. -/
def builderOrderWrong : ChangeSpec := { name := "builderOrder", fn := fun _ => fun
  | [d1, d2] => { results := [.lit (.bool false)], args := [d1, d2] }
  | _ => none }
def BuilderOrderWrongFalsely : Prop := builderOrderRow.holds Tryz.pinned (OpenSpec.ofChange builderOrderWrong)

/-- 'henkanlaw18.BuilderHolds': WHATEVER THE INPUT: true; the input reads as it did. -/
def builderHoldsSpec : ChangeSpec := { name := "builderHolds", fn := fun _ => fun
  | [d] => { results := [.lit (.bool true)], args := [d] }
  | _ => none }
def builderHoldsRow : OpenClaim := { program := "ytepoiefadjoabaagreatdoor", sum := "45ccc6aef9ab264ce491e1d00d9ecb3447983635c804520794598dfac54e0dfd", func := "henkan/henkanlaw18.BuilderHolds", spec := "builderHolds", unfollowed := true, recurses := true, named := ["unicode/utf8.first", "unicode/utf8.acceptRanges", "henkan/crc.quarter"], plainKeys := false, apart := false, laid := [("henkan/crc.quarter", laid_henkan_crc_quarter), ("unicode/utf8.acceptRanges", laid_unicode_utf8_acceptRanges), ("unicode/utf8.first", laid_unicode_utf8_first)] }
def BuilderHoldsSaid : Prop := builderHoldsRow.holds Tryz.pinned (OpenSpec.ofChange builderHoldsSpec)

/-- ITS FALSE NEIGHBOUR: 'it returns false'. Refute it at one input. -/
def builderHoldsWrong : ChangeSpec := { name := "builderHolds", fn := fun _ => fun
  | [d] => { results := [.lit (.bool false)], args := [d] }
  | _ => none }
def BuilderHoldsWrongFalsely : Prop := builderHoldsRow.holds Tryz.pinned (OpenSpec.ofChange builderHoldsWrong)

/- THE SECOND FORM. 'bulk': how many values and letters a reading holds, each counted each time it is reached (what is shared counts as often as it is met; a slice's spare places count too). A statement '..UptoSaid' is the law's where the arguments, and the package variables that the reading takes, are together of bulk at most 1048576: NARROWER than '..Said'. Prove '..Said' where nothing that the law and all that it calls make is longer than what came in: it says more and counts as full. Else prove '..UptoSaid'. A law counts once. -/
mutual
def uptoBulk {H : Type} : DataW H → Nat
  | .lit (.string bytes) => bytes.length + 1
  | .lit _ => 1
  | .nil => 1
  | .ptr d => uptoBulk d + 1
  | .slice elems spare => uptoBulkAll elems + uptoBulkAll spare + 1
  | .agg parts => uptoBulkAll parts + 1
  | .iface _ d => uptoBulk d + 1
  | .map entries => uptoBulkEntries entries + 1
  | .held _ => 1
def uptoBulkAll {H : Type} : List (DataW H) → Nat
  | [] => 0
  | d :: r => uptoBulk d + uptoBulkAll r
def uptoBulkEntries {H : Type} : List (Lit × DataW H) → Nat
  | [] => 0
  | x :: r => uptoBulkEntry x + uptoBulkEntries r
def uptoBulkEntry {H : Type} : Lit × DataW H → Nat
  | (.string bytes, d) => bytes.length + uptoBulk d + 1
  | (_, d) => uptoBulk d + 1
 end
def uptoSmall : (H : Type) → List (DataW H) → Bool := fun _ ds => decide (uptoBulkAll ds ≤ 1048576)
def OpenSpec.upto (s : _root_.Go.ChangeSpec) : _root_.Go.OpenSpec := { _root_.Go.OpenSpec.ofChange s with cond := some uptoSmall }

/-- 'henkanlaw18.BuilderBuilds', WHERE WHAT IT READS IS OF BULK AT MOST 1048576: true; the input reads as it did. -/
def builderBuildsUptoRow : OpenClaim := { program := "ytepoiefadjoabaagreatdoor", sum := "45ccc6aef9ab264ce491e1d00d9ecb3447983635c804520794598dfac54e0dfd", func := "henkan/henkanlaw18.BuilderBuilds", spec := "builderBuilds", unfollowed := true, recurses := true, named := ["unicode/utf8.first", "unicode/utf8.acceptRanges", "henkan/crc.quarter"], plainKeys := false, apart := false, laid := [("henkan/crc.quarter", laid_henkan_crc_quarter), ("unicode/utf8.acceptRanges", laid_unicode_utf8_acceptRanges), ("unicode/utf8.first", laid_unicode_utf8_first)], narrowed := true }
def BuilderBuildsUptoSaid : Prop := builderBuildsUptoRow.holds Tryz.pinned (OpenSpec.upto builderBuildsSpec)

/-- 'henkanlaw18.BuilderSizes', WHERE WHAT IT READS IS OF BULK AT MOST 1048576: true; the input reads as it did. -/
def builderSizesUptoRow : OpenClaim := { program := "ytepoiefadjoabaagreatdoor", sum := "45ccc6aef9ab264ce491e1d00d9ecb3447983635c804520794598dfac54e0dfd", func := "henkan/henkanlaw18.BuilderSizes", spec := "builderSizes", unfollowed := true, recurses := true, named := ["unicode/utf8.first", "unicode/utf8.acceptRanges", "henkan/crc.quarter"], plainKeys := false, apart := false, laid := [("henkan/crc.quarter", laid_henkan_crc_quarter), ("unicode/utf8.acceptRanges", laid_unicode_utf8_acceptRanges), ("unicode/utf8.first", laid_unicode_utf8_first)], narrowed := true }
def BuilderSizesUptoSaid : Prop := builderSizesUptoRow.holds Tryz.pinned (OpenSpec.upto builderSizesSpec)

/-- 'henkanlaw18.BuilderOrder', WHERE WHAT IT READS IS OF BULK AT MOST 1048576: true; the input reads as it did. -/
def builderOrderUptoRow : OpenClaim := { program := "ytepoiefadjoabaagreatdoor", sum := "45ccc6aef9ab264ce491e1d00d9ecb3447983635c804520794598dfac54e0dfd", func := "henkan/henkanlaw18.BuilderOrder", spec := "builderOrder", unfollowed := true, recurses := true, named := ["unicode/utf8.first", "unicode/utf8.acceptRanges", "henkan/crc.quarter"], plainKeys := false, apart := false, laid := [("henkan/crc.quarter", laid_henkan_crc_quarter), ("unicode/utf8.acceptRanges", laid_unicode_utf8_acceptRanges), ("unicode/utf8.first", laid_unicode_utf8_first)], narrowed := true }
def BuilderOrderUptoSaid : Prop := builderOrderUptoRow.holds Tryz.pinned (OpenSpec.upto builderOrderSpec)

/-- 'henkanlaw18.BuilderHolds', WHERE WHAT IT READS IS OF BULK AT MOST 1048576: true; the input reads as it did. -/
def builderHoldsUptoRow : OpenClaim := { program := "ytepoiefadjoabaagreatdoor", sum := "45ccc6aef9ab264ce491e1d00d9ecb3447983635c804520794598dfac54e0dfd", func := "henkan/henkanlaw18.BuilderHolds", spec := "builderHolds", unfollowed := true, recurses := true, named := ["unicode/utf8.first", "unicode/utf8.acceptRanges", "henkan/crc.quarter"], plainKeys := false, apart := false, laid := [("henkan/crc.quarter", laid_henkan_crc_quarter), ("unicode/utf8.acceptRanges", laid_unicode_utf8_acceptRanges), ("unicode/utf8.first", laid_unicode_utf8_first)], narrowed := true }
def BuilderHoldsUptoSaid : Prop := builderHoldsUptoRow.holds Tryz.pinned (OpenSpec.upto builderHoldsSpec)

end Rows
end Go.Proofs.YtepoiefadjoabaaGreatDoor
