/-
  NARROWER THAN 'FOR EVERY INPUT', by the rows' own cells (each row's printed sentence says how): FoldUnfolds: laid · FoldBack: laid · FoldFolds: laid · FieldReads: laid · FieldOne: laid · FieldBack: laid · FlowedReads: laid · FlowedLays: laid · FlowedLines: laid · FlowedBack: laid.
  DERIVED. THE GIVEN ROWS OF THIS SEAT. 10 by the template 'for every input the law returns true; each argument reads behind the call as it read before'; 0 by the template 'total and deterministic' (their statements: YtcfhfjjohmdaoaaDoorTotals.lean).
  GIVEN WITH THE SEED: the statements are not yours to turn. If you find one false, say at which input.
  Laid BY PROGRAM, IN A SANDBOX (cutbox-rows.mjs): the forced cells as the released guide's own fill.sh prints them over the translation 82b0b36b62a43c8b… (all of the seat's roots in one cut). By AI agents, Wed Nov 11 2026. No macro, syntax, notation, axiom, sorry.
-/
import Derived.Test.YtcfhfjjohmdaoaaDoorChecked
import GoSem.PinnedTables
import GoSem.Claim
import GoSem.ClaimJoined
import GoSem.ClaimMapViews
import Derived.JoinedTies
import Derived.KernelRfl
namespace Go.Proofs.YtcfhfjjohmdaoaaDoor
/- THE CELL 'sum', in the pinned program and in every row, IS THE sha256 OF THE DUMP (.gsa) THAT YtcfhfjjohmdaoaaDoorProg.lean LOADS. Nothing in Lean hashes anything: it is a label: what it is worth is what the hold of that sum in a sandbox is worth. -/
noncomputable def Tryd.pinned : Pinned := { name := "ytcfhfjjohmdaoaadoor", sum := "82b0b36b62a43c8ba3c94b7b88d54ac93e0bf312915919b1dbb472716033e75a", checked := Tryd.checked }
namespace Rows
def none {H : Type} : Left H := { results := [], args := [] }

/- WHAT THE LISTED PACKAGE-LEVEL VARIABLES READ AS WHEN THE CALL BEGINS. Each datum BY PROGRAM (the guide's laid-datum.mjs) off the statement by which the dump's own 'gosem.cut.vars' lays the variable. In a bare row this is a premise. The card (YtcfhfjjohmdaoaaDoorCards.lean) ties it to the program's text. -/
def laid_unicode_utf8_acceptRanges {H : Type} : DataW H := .agg [.agg [.lit (.int .u8 128), .lit (.int .u8 191)], .agg [.lit (.int .u8 160), .lit (.int .u8 191)], .agg [.lit (.int .u8 128), .lit (.int .u8 159)], .agg [.lit (.int .u8 144), .lit (.int .u8 191)], .agg [.lit (.int .u8 128), .lit (.int .u8 143)], .agg [.lit (.int .u8 0), .lit (.int .u8 0)], .agg [.lit (.int .u8 0), .lit (.int .u8 0)], .agg [.lit (.int .u8 0), .lit (.int .u8 0)], .agg [.lit (.int .u8 0), .lit (.int .u8 0)], .agg [.lit (.int .u8 0), .lit (.int .u8 0)], .agg [.lit (.int .u8 0), .lit (.int .u8 0)], .agg [.lit (.int .u8 0), .lit (.int .u8 0)], .agg [.lit (.int .u8 0), .lit (.int .u8 0)], .agg [.lit (.int .u8 0), .lit (.int .u8 0)], .agg [.lit (.int .u8 0), .lit (.int .u8 0)], .agg [.lit (.int .u8 0), .lit (.int .u8 0)]]
/-- One of Go's own tables, pinned by name: the form's constant. -/
def laid_unicode_utf8_first : DataW Unit := Go.Pinned.utf8First

/-- 'sheavelaw27.FoldUnfolds': WHATEVER THE INPUT: true; the input reads as it did. -/
def foldUnfoldsSpec : ChangeSpec := { name := "foldUnfolds", fn := fun _ => fun
  | [d] => { results := [.lit (.bool true)], args := [d] }
  | _ => none }
def foldUnfoldsRow : OpenClaim := { program := "ytcfhfjjohmdaoaadoor", sum := "82b0b36b62a43c8ba3c94b7b88d54ac93e0bf312915919b1dbb472716033e75a", func := "sheave/sheavelaw27.FoldUnfolds", spec := "foldUnfolds", inPlace := ["internal/bytealg.IndexByte", "internal/bytealg.Index", "internal/bytealg.IndexByteString", "internal/bytealg.IndexString"], named := ["internal/bytealg.MaxLen", "unicode/utf8.first", "unicode/utf8.acceptRanges"], apart := false, laid := [("unicode/utf8.acceptRanges", laid_unicode_utf8_acceptRanges), ("unicode/utf8.first", laid_unicode_utf8_first)] }
def FoldUnfoldsSaid : Prop := foldUnfoldsRow.holds Tryd.pinned (OpenSpec.ofChange foldUnfoldsSpec)

/-- ITS FALSE NEIGHBOUR: 'it returns false'. Refute it at one input. -/
def foldUnfoldsWrong : ChangeSpec := { name := "foldUnfolds", fn := fun _ => fun
  | [d] => { results := [.lit (.bool false)], args := [d] }
  | _ => none }
def FoldUnfoldsWrongFalsely : Prop := foldUnfoldsRow.holds Tryd.pinned (OpenSpec.ofChange foldUnfoldsWrong)

/-- 'sheavelaw27.FoldBack': WHATEVER THE INPUT: true; the input reads as it did. -/
def foldBackSpec : ChangeSpec := { name := "foldBack", fn := fun _ => fun
  | [d1, d2, d3] => { results := [.lit (.bool true)], args := [d1, d2, d3] }
  | _ => none }
def foldBackRow : OpenClaim := { program := "ytcfhfjjohmdaoaadoor", sum := "82b0b36b62a43c8ba3c94b7b88d54ac93e0bf312915919b1dbb472716033e75a", func := "sheave/sheavelaw27.FoldBack", spec := "foldBack", inPlace := ["internal/bytealg.IndexByte", "internal/bytealg.Index", "internal/bytealg.IndexByteString", "internal/bytealg.IndexString"], named := ["internal/bytealg.MaxLen", "unicode/utf8.first", "unicode/utf8.acceptRanges"], apart := false, laid := [("unicode/utf8.acceptRanges", laid_unicode_utf8_acceptRanges), ("unicode/utf8.first", laid_unicode_utf8_first)] }
def FoldBackSaid : Prop := foldBackRow.holds Tryd.pinned (OpenSpec.ofChange foldBackSpec)

/-- ITS FALSE NEIGHBOUR: 'it returns false'. Refute it at one input. -/
def foldBackWrong : ChangeSpec := { name := "foldBack", fn := fun _ => fun
  | [d1, d2, d3] => { results := [.lit (.bool false)], args := [d1, d2, d3] }
  | _ => none }
def FoldBackWrongFalsely : Prop := foldBackRow.holds Tryd.pinned (OpenSpec.ofChange foldBackWrong)

/-- 'sheavelaw27.FoldFolds': WHATEVER THE INPUT: true; the input reads as it did. -/
def foldFoldsSpec : ChangeSpec := { name := "foldFolds", fn := fun _ => fun
  | [d1, d2, d3] => { results := [.lit (.bool true)], args := [d1, d2, d3] }
  | _ => none }
def foldFoldsRow : OpenClaim := { program := "ytcfhfjjohmdaoaadoor", sum := "82b0b36b62a43c8ba3c94b7b88d54ac93e0bf312915919b1dbb472716033e75a", func := "sheave/sheavelaw27.FoldFolds", spec := "foldFolds", inPlace := ["internal/bytealg.IndexByte", "internal/bytealg.Index", "internal/bytealg.IndexByteString", "internal/bytealg.IndexString"], named := ["internal/bytealg.MaxLen", "unicode/utf8.first", "unicode/utf8.acceptRanges"], apart := false, laid := [("unicode/utf8.acceptRanges", laid_unicode_utf8_acceptRanges), ("unicode/utf8.first", laid_unicode_utf8_first)] }
def FoldFoldsSaid : Prop := foldFoldsRow.holds Tryd.pinned (OpenSpec.ofChange foldFoldsSpec)

/-- ITS FALSE NEIGHBOUR: 'it returns false'. Refute it at one input. -/
def foldFoldsWrong : ChangeSpec := { name := "foldFolds", fn := fun _ => fun
  | [d1, d2, d3] => { results := [.lit (.bool false)], args := [d1, d2, d3] }
  | _ => none }
def FoldFoldsWrongFalsely : Prop := foldFoldsRow.holds Tryd.pinned (OpenSpec.ofChange foldFoldsWrong)

/-- 'sheavelaw48.FieldReads': WHATEVER THE INPUT: true; the input reads as it did. -/
def fieldReadsSpec : ChangeSpec := { name := "fieldReads", fn := fun _ => fun
  | [d] => { results := [.lit (.bool true)], args := [d] }
  | _ => none }
def fieldReadsRow : OpenClaim := { program := "ytcfhfjjohmdaoaadoor", sum := "82b0b36b62a43c8ba3c94b7b88d54ac93e0bf312915919b1dbb472716033e75a", func := "sheave/sheavelaw48.FieldReads", spec := "fieldReads", inPlace := ["internal/bytealg.IndexByte", "internal/bytealg.Index", "internal/bytealg.IndexByteString"], named := ["internal/bytealg.MaxLen", "unicode/utf8.first", "unicode/utf8.acceptRanges"], apart := false, laid := [("unicode/utf8.acceptRanges", laid_unicode_utf8_acceptRanges), ("unicode/utf8.first", laid_unicode_utf8_first)] }
def FieldReadsSaid : Prop := fieldReadsRow.holds Tryd.pinned (OpenSpec.ofChange fieldReadsSpec)

/-- ITS FALSE NEIGHBOUR: 'it returns false'. Refute it at one input. -/
def fieldReadsWrong : ChangeSpec := { name := "fieldReads", fn := fun _ => fun
  | [d] => { results := [.lit (.bool false)], args := [d] }
  | _ => none }
def FieldReadsWrongFalsely : Prop := fieldReadsRow.holds Tryd.pinned (OpenSpec.ofChange fieldReadsWrong)

/-- 'sheavelaw48.FieldOne': WHATEVER THE INPUT: true; the input reads as it did. -/
def fieldOneSpec : ChangeSpec := { name := "fieldOne", fn := fun _ => fun
  | [d] => { results := [.lit (.bool true)], args := [d] }
  | _ => none }
def fieldOneRow : OpenClaim := { program := "ytcfhfjjohmdaoaadoor", sum := "82b0b36b62a43c8ba3c94b7b88d54ac93e0bf312915919b1dbb472716033e75a", func := "sheave/sheavelaw48.FieldOne", spec := "fieldOne", inPlace := ["internal/bytealg.IndexByte", "internal/bytealg.Index", "internal/bytealg.IndexByteString"], named := ["internal/bytealg.MaxLen", "unicode/utf8.first", "unicode/utf8.acceptRanges"], apart := false, laid := [("unicode/utf8.acceptRanges", laid_unicode_utf8_acceptRanges), ("unicode/utf8.first", laid_unicode_utf8_first)] }
def FieldOneSaid : Prop := fieldOneRow.holds Tryd.pinned (OpenSpec.ofChange fieldOneSpec)

/-- ITS FALSE NEIGHBOUR: 'it returns false'. Refute it at one input. -/
def fieldOneWrong : ChangeSpec := { name := "fieldOne", fn := fun _ => fun
  | [d] => { results := [.lit (.bool false)], args := [d] }
  | _ => none }
def FieldOneWrongFalsely : Prop := fieldOneRow.holds Tryd.pinned (OpenSpec.ofChange fieldOneWrong)

/-- 'sheavelaw48.FieldBack': WHATEVER THE INPUT: true; the input reads as it did. -/
def fieldBackSpec : ChangeSpec := { name := "fieldBack", fn := fun _ => fun
  | [d1, d2] => { results := [.lit (.bool true)], args := [d1, d2] }
  | _ => none }
def fieldBackRow : OpenClaim := { program := "ytcfhfjjohmdaoaadoor", sum := "82b0b36b62a43c8ba3c94b7b88d54ac93e0bf312915919b1dbb472716033e75a", func := "sheave/sheavelaw48.FieldBack", spec := "fieldBack", inPlace := ["internal/bytealg.IndexByte", "internal/bytealg.Index", "internal/bytealg.IndexByteString", "internal/bytealg.IndexString"], named := ["internal/bytealg.MaxLen", "unicode/utf8.first", "unicode/utf8.acceptRanges"], apart := false, laid := [("unicode/utf8.acceptRanges", laid_unicode_utf8_acceptRanges), ("unicode/utf8.first", laid_unicode_utf8_first)] }
def FieldBackSaid : Prop := fieldBackRow.holds Tryd.pinned (OpenSpec.ofChange fieldBackSpec)

/-- ITS FALSE NEIGHBOUR: 'it returns false'. Refute it at one input. -/
def fieldBackWrong : ChangeSpec := { name := "fieldBack", fn := fun _ => fun
  | [d1, d2] => { results := [.lit (.bool false)], args := [d1, d2] }
  | _ => none }
def FieldBackWrongFalsely : Prop := fieldBackRow.holds Tryd.pinned (OpenSpec.ofChange fieldBackWrong)

/-- 'sheavelaw42.FlowedReads': WHATEVER THE INPUT: true; the input reads as it did. -/
def flowedReadsSpec : ChangeSpec := { name := "flowedReads", fn := fun _ => fun
  | [d] => { results := [.lit (.bool true)], args := [d] }
  | _ => none }
def flowedReadsRow : OpenClaim := { program := "ytcfhfjjohmdaoaadoor", sum := "82b0b36b62a43c8ba3c94b7b88d54ac93e0bf312915919b1dbb472716033e75a", func := "sheave/sheavelaw42.FlowedReads", spec := "flowedReads", inPlace := ["internal/bytealg.IndexByte", "internal/bytealg.Index", "internal/bytealg.IndexByteString", "internal/bytealg.IndexString", "internal/bytealg.MakeNoZero"], unfollowed := true, recurses := true, named := ["unicode/utf8.first", "unicode/utf8.acceptRanges", "internal/bytealg.MaxLen"], apart := false, laid := [("unicode/utf8.acceptRanges", laid_unicode_utf8_acceptRanges), ("unicode/utf8.first", laid_unicode_utf8_first)] }
def FlowedReadsSaid : Prop := flowedReadsRow.holds Tryd.pinned (OpenSpec.ofChange flowedReadsSpec)

/-- ITS FALSE NEIGHBOUR: 'it returns false'. Refute it at one input. -/
def flowedReadsWrong : ChangeSpec := { name := "flowedReads", fn := fun _ => fun
  | [d] => { results := [.lit (.bool false)], args := [d] }
  | _ => none }
def FlowedReadsWrongFalsely : Prop := flowedReadsRow.holds Tryd.pinned (OpenSpec.ofChange flowedReadsWrong)

/-- 'sheavelaw42.FlowedLays': WHATEVER THE INPUT: true; the input reads as it did. -/
def flowedLaysSpec : ChangeSpec := { name := "flowedLays", fn := fun _ => fun
  | [d1, d2] => { results := [.lit (.bool true)], args := [d1, d2] }
  | _ => none }
def flowedLaysRow : OpenClaim := { program := "ytcfhfjjohmdaoaadoor", sum := "82b0b36b62a43c8ba3c94b7b88d54ac93e0bf312915919b1dbb472716033e75a", func := "sheave/sheavelaw42.FlowedLays", spec := "flowedLays", inPlace := ["internal/bytealg.IndexByte", "internal/bytealg.Index", "internal/bytealg.IndexByteString", "internal/bytealg.IndexString", "internal/bytealg.MakeNoZero"], unfollowed := true, recurses := true, named := ["unicode/utf8.first", "unicode/utf8.acceptRanges", "internal/bytealg.MaxLen"], apart := false, laid := [("unicode/utf8.acceptRanges", laid_unicode_utf8_acceptRanges), ("unicode/utf8.first", laid_unicode_utf8_first)] }
def FlowedLaysSaid : Prop := flowedLaysRow.holds Tryd.pinned (OpenSpec.ofChange flowedLaysSpec)

/-- ITS FALSE NEIGHBOUR: 'it returns false'. Refute it at one input. -/
def flowedLaysWrong : ChangeSpec := { name := "flowedLays", fn := fun _ => fun
  | [d1, d2] => { results := [.lit (.bool false)], args := [d1, d2] }
  | _ => none }
def FlowedLaysWrongFalsely : Prop := flowedLaysRow.holds Tryd.pinned (OpenSpec.ofChange flowedLaysWrong)

/-- 'sheavelaw42.FlowedLines': WHATEVER THE INPUT: true; the input reads as it did. -/
def flowedLinesSpec : ChangeSpec := { name := "flowedLines", fn := fun _ => fun
  | [d1, d2] => { results := [.lit (.bool true)], args := [d1, d2] }
  | _ => none }
def flowedLinesRow : OpenClaim := { program := "ytcfhfjjohmdaoaadoor", sum := "82b0b36b62a43c8ba3c94b7b88d54ac93e0bf312915919b1dbb472716033e75a", func := "sheave/sheavelaw42.FlowedLines", spec := "flowedLines", inPlace := ["internal/bytealg.IndexByte", "internal/bytealg.Index", "internal/bytealg.IndexByteString", "internal/bytealg.IndexString", "internal/bytealg.MakeNoZero"], unfollowed := true, recurses := true, named := ["unicode/utf8.first", "unicode/utf8.acceptRanges", "internal/bytealg.MaxLen"], apart := false, laid := [("unicode/utf8.acceptRanges", laid_unicode_utf8_acceptRanges), ("unicode/utf8.first", laid_unicode_utf8_first)] }
def FlowedLinesSaid : Prop := flowedLinesRow.holds Tryd.pinned (OpenSpec.ofChange flowedLinesSpec)

/-- ITS FALSE NEIGHBOUR: 'it returns false'. Refute it at one input. -/
def flowedLinesWrong : ChangeSpec := { name := "flowedLines", fn := fun _ => fun
  | [d1, d2] => { results := [.lit (.bool false)], args := [d1, d2] }
  | _ => none }
def FlowedLinesWrongFalsely : Prop := flowedLinesRow.holds Tryd.pinned (OpenSpec.ofChange flowedLinesWrong)

/-- 'sheavelaw42.FlowedBack': WHATEVER THE INPUT: true; the input reads as it did. -/
def flowedBackSpec : ChangeSpec := { name := "flowedBack", fn := fun _ => fun
  | [d1, d2] => { results := [.lit (.bool true)], args := [d1, d2] }
  | _ => none }
def flowedBackRow : OpenClaim := { program := "ytcfhfjjohmdaoaadoor", sum := "82b0b36b62a43c8ba3c94b7b88d54ac93e0bf312915919b1dbb472716033e75a", func := "sheave/sheavelaw42.FlowedBack", spec := "flowedBack", inPlace := ["internal/bytealg.IndexByte", "internal/bytealg.Index", "internal/bytealg.IndexByteString", "internal/bytealg.IndexString", "internal/bytealg.MakeNoZero"], unfollowed := true, recurses := true, named := ["unicode/utf8.first", "unicode/utf8.acceptRanges", "internal/bytealg.MaxLen"], apart := false, laid := [("unicode/utf8.acceptRanges", laid_unicode_utf8_acceptRanges), ("unicode/utf8.first", laid_unicode_utf8_first)] }
def FlowedBackSaid : Prop := flowedBackRow.holds Tryd.pinned (OpenSpec.ofChange flowedBackSpec)

/-- ITS FALSE NEIGHBOUR: 'it returns false'. Refute it at one input. -/
def flowedBackWrong : ChangeSpec := { name := "flowedBack", fn := fun _ => fun
  | [d1, d2] => { results := [.lit (.bool false)], args := [d1, d2] }
  | _ => none }
def FlowedBackWrongFalsely : Prop := flowedBackRow.holds Tryd.pinned (OpenSpec.ofChange flowedBackWrong)

/- THE SECOND FORM. 'bulk': how many values and letters a reading holds, each counted each time it is reached (what is shared counts as often as it is met; a slice's spare places count too). A statement '..UptoSaid' is the law's where the arguments, and the package variables that the reading takes, are together of bulk at most 1048576: NARROWER than '..Said'. Prove '..Said' where nothing that the law and all that it calls make is longer than what came in: it says more and counts as full. Else prove '..UptoSaid'. A law counts once. -/
mutual
def uptoBulk {H : Type} : DataW H → Nat
  | .lit (.string bytes) => bytes.length + 1
  | .lit _ => 1
  | .nil => 1
  | .ptr d => uptoBulk d + 1
  | .slice elems spare => uptoBulkAll elems + uptoBulkAll spare + 1
  | .agg parts => uptoBulkAll parts + 1
  | .iface _ d => uptoBulk d + 1
  | .map entries => uptoBulkEntries entries + 1
  | .held _ => 1
def uptoBulkAll {H : Type} : List (DataW H) → Nat
  | [] => 0
  | d :: r => uptoBulk d + uptoBulkAll r
def uptoBulkEntries {H : Type} : List (Lit × DataW H) → Nat
  | [] => 0
  | x :: r => uptoBulkEntry x + uptoBulkEntries r
def uptoBulkEntry {H : Type} : Lit × DataW H → Nat
  | (.string bytes, d) => bytes.length + uptoBulk d + 1
  | (_, d) => uptoBulk d + 1
 end
def uptoSmall : (H : Type) → List (DataW H) → Bool := fun _ ds => decide (uptoBulkAll ds ≤ 1048576)
def OpenSpec.upto (s : _root_.Go.ChangeSpec) : _root_.Go.OpenSpec := { _root_.Go.OpenSpec.ofChange s with cond := some uptoSmall }

/-- 'sheavelaw27.FoldUnfolds', WHERE WHAT IT READS IS OF BULK AT MOST 1048576: true; the input reads as it did. -/
def foldUnfoldsUptoRow : OpenClaim := { program := "ytcfhfjjohmdaoaadoor", sum := "82b0b36b62a43c8ba3c94b7b88d54ac93e0bf312915919b1dbb472716033e75a", func := "sheave/sheavelaw27.FoldUnfolds", spec := "foldUnfolds", inPlace := ["internal/bytealg.IndexByte", "internal/bytealg.Index", "internal/bytealg.IndexByteString", "internal/bytealg.IndexString"], named := ["internal/bytealg.MaxLen", "unicode/utf8.first", "unicode/utf8.acceptRanges"], apart := false, laid := [("unicode/utf8.acceptRanges", laid_unicode_utf8_acceptRanges), ("unicode/utf8.first", laid_unicode_utf8_first)], narrowed := true }
def FoldUnfoldsUptoSaid : Prop := foldUnfoldsUptoRow.holds Tryd.pinned (OpenSpec.upto foldUnfoldsSpec)

/-- 'sheavelaw27.FoldBack', WHERE WHAT IT READS IS OF BULK AT MOST 1048576: true; the input reads as it did. -/
def foldBackUptoRow : OpenClaim := { program := "ytcfhfjjohmdaoaadoor", sum := "82b0b36b62a43c8ba3c94b7b88d54ac93e0bf312915919b1dbb472716033e75a", func := "sheave/sheavelaw27.FoldBack", spec := "foldBack", inPlace := ["internal/bytealg.IndexByte", "internal/bytealg.Index", "internal/bytealg.IndexByteString", "internal/bytealg.IndexString"], named := ["internal/bytealg.MaxLen", "unicode/utf8.first", "unicode/utf8.acceptRanges"], apart := false, laid := [("unicode/utf8.acceptRanges", laid_unicode_utf8_acceptRanges), ("unicode/utf8.first", laid_unicode_utf8_first)], narrowed := true }
def FoldBackUptoSaid : Prop := foldBackUptoRow.holds Tryd.pinned (OpenSpec.upto foldBackSpec)

/-- 'sheavelaw27.FoldFolds', WHERE WHAT IT READS IS OF BULK AT MOST 1048576: true; the input reads as it did. -/
def foldFoldsUptoRow : OpenClaim := { program := "ytcfhfjjohmdaoaadoor", sum := "82b0b36b62a43c8ba3c94b7b88d54ac93e0bf312915919b1dbb472716033e75a", func := "sheave/sheavelaw27.FoldFolds", spec := "foldFolds", inPlace := ["internal/bytealg.IndexByte", "internal/bytealg.Index", "internal/bytealg.IndexByteString", "internal/bytealg.IndexString"], named := ["internal/bytealg.MaxLen", "unicode/utf8.first", "unicode/utf8.acceptRanges"], apart := false, laid := [("unicode/utf8.acceptRanges", laid_unicode_utf8_acceptRanges), ("unicode/utf8.first", laid_unicode_utf8_first)], narrowed := true }
def FoldFoldsUptoSaid : Prop := foldFoldsUptoRow.holds Tryd.pinned (OpenSpec.upto foldFoldsSpec)

/-- 'sheavelaw48.FieldReads', WHERE WHAT IT READS IS OF BULK AT MOST 1048576: true; the input reads as it did. -/
def fieldReadsUptoRow : OpenClaim := { program := "ytcfhfjjohmdaoaadoor", sum := "82b0b36b62a43c8ba3c94b7b88d54ac93e0bf312915919b1dbb472716033e75a", func := "sheave/sheavelaw48.FieldReads", spec := "fieldReads", inPlace := ["internal/bytealg.IndexByte", "internal/bytealg.Index", "internal/bytealg.IndexByteString"], named := ["internal/bytealg.MaxLen", "unicode/utf8.first", "unicode/utf8.acceptRanges"], apart := false, laid := [("unicode/utf8.acceptRanges", laid_unicode_utf8_acceptRanges), ("unicode/utf8.first", laid_unicode_utf8_first)], narrowed := true }
def FieldReadsUptoSaid : Prop := fieldReadsUptoRow.holds Tryd.pinned (OpenSpec.upto fieldReadsSpec)

/-- 'sheavelaw48.FieldOne', WHERE WHAT IT READS IS OF BULK AT MOST 1048576: true; the input reads as it did. -/
def fieldOneUptoRow : OpenClaim := { program := "ytcfhfjjohmdaoaadoor", sum := "82b0b36b62a43c8ba3c94b7b88d54ac93e0bf312915919b1dbb472716033e75a", func := "sheave/sheavelaw48.FieldOne", spec := "fieldOne", inPlace := ["internal/bytealg.IndexByte", "internal/bytealg.Index", "internal/bytealg.IndexByteString"], named := ["internal/bytealg.MaxLen", "unicode/utf8.first", "unicode/utf8.acceptRanges"], apart := false, laid := [("unicode/utf8.acceptRanges", laid_unicode_utf8_acceptRanges), ("unicode/utf8.first", laid_unicode_utf8_first)], narrowed := true }
def FieldOneUptoSaid : Prop := fieldOneUptoRow.holds Tryd.pinned (OpenSpec.upto fieldOneSpec)

/-- 'sheavelaw48.FieldBack', WHERE WHAT IT READS IS OF BULK AT MOST 1048576: true; the input reads as it did. -/
def fieldBackUptoRow : OpenClaim := { program := "ytcfhfjjohmdaoaadoor", sum := "82b0b36b62a43c8ba3c94b7b88d54ac93e0bf312915919b1dbb472716033e75a", func := "sheave/sheavelaw48.FieldBack", spec := "fieldBack", inPlace := ["internal/bytealg.IndexByte", "internal/bytealg.Index", "internal/bytealg.IndexByteString", "internal/bytealg.IndexString"], named := ["internal/bytealg.MaxLen", "unicode/utf8.first", "unicode/utf8.acceptRanges"], apart := false, laid := [("unicode/utf8.acceptRanges", laid_unicode_utf8_acceptRanges), ("unicode/utf8.first", laid_unicode_utf8_first)], narrowed := true }
def FieldBackUptoSaid : Prop := fieldBackUptoRow.holds Tryd.pinned (OpenSpec.upto fieldBackSpec)

/-- 'sheavelaw42.FlowedReads', WHERE WHAT IT READS IS OF BULK AT MOST 1048576: true; the input reads as it did. -/
def flowedReadsUptoRow : OpenClaim := { program := "ytcfhfjjohmdaoaadoor", sum := "82b0b36b62a43c8ba3c94b7b88d54ac93e0bf312915919b1dbb472716033e75a", func := "sheave/sheavelaw42.FlowedReads", spec := "flowedReads", inPlace := ["internal/bytealg.IndexByte", "internal/bytealg.Index", "internal/bytealg.IndexByteString", "internal/bytealg.IndexString", "internal/bytealg.MakeNoZero"], unfollowed := true, recurses := true, named := ["unicode/utf8.first", "unicode/utf8.acceptRanges", "internal/bytealg.MaxLen"], apart := false, laid := [("unicode/utf8.acceptRanges", laid_unicode_utf8_acceptRanges), ("unicode/utf8.first", laid_unicode_utf8_first)], narrowed := true }
def FlowedReadsUptoSaid : Prop := flowedReadsUptoRow.holds Tryd.pinned (OpenSpec.upto flowedReadsSpec)

/-- 'sheavelaw42.FlowedLays', WHERE WHAT IT READS IS OF BULK AT MOST 1048576: true; the input reads as it did. -/
def flowedLaysUptoRow : OpenClaim := { program := "ytcfhfjjohmdaoaadoor", sum := "82b0b36b62a43c8ba3c94b7b88d54ac93e0bf312915919b1dbb472716033e75a", func := "sheave/sheavelaw42.FlowedLays", spec := "flowedLays", inPlace := ["internal/bytealg.IndexByte", "internal/bytealg.Index", "internal/bytealg.IndexByteString", "internal/bytealg.IndexString", "internal/bytealg.MakeNoZero"], unfollowed := true, recurses := true, named := ["unicode/utf8.first", "unicode/utf8.acceptRanges", "internal/bytealg.MaxLen"], apart := false, laid := [("unicode/utf8.acceptRanges", laid_unicode_utf8_acceptRanges), ("unicode/utf8.first", laid_unicode_utf8_first)], narrowed := true }
def FlowedLaysUptoSaid : Prop := flowedLaysUptoRow.holds Tryd.pinned (OpenSpec.upto flowedLaysSpec)

/-- 'sheavelaw42.FlowedLines', WHERE WHAT IT READS IS OF BULK AT MOST 1048576: true; the input reads as it did. -/
def flowedLinesUptoRow : OpenClaim := { program := "ytcfhfjjohmdaoaadoor", sum := "82b0b36b62a43c8ba3c94b7b88d54ac93e0bf312915919b1dbb472716033e75a", func := "sheave/sheavelaw42.FlowedLines", spec := "flowedLines", inPlace := ["internal/bytealg.IndexByte", "internal/bytealg.Index", "internal/bytealg.IndexByteString", "internal/bytealg.IndexString", "internal/bytealg.MakeNoZero"], unfollowed := true, recurses := true, named := ["unicode/utf8.first", "unicode/utf8.acceptRanges", "internal/bytealg.MaxLen"], apart := false, laid := [("unicode/utf8.acceptRanges", laid_unicode_utf8_acceptRanges), ("unicode/utf8.first", laid_unicode_utf8_first)], narrowed := true }
def FlowedLinesUptoSaid : Prop := flowedLinesUptoRow.holds Tryd.pinned (OpenSpec.upto flowedLinesSpec)

/-- 'sheavelaw42.FlowedBack', WHERE WHAT IT READS IS OF BULK AT MOST 1048576: true; the input reads as it did. -/
def flowedBackUptoRow : OpenClaim := { program := "ytcfhfjjohmdaoaadoor", sum := "82b0b36b62a43c8ba3c94b7b88d54ac93e0bf312915919b1dbb472716033e75a", func := "sheave/sheavelaw42.FlowedBack", spec := "flowedBack", inPlace := ["internal/bytealg.IndexByte", "internal/bytealg.Index", "internal/bytealg.IndexByteString", "internal/bytealg.IndexString", "internal/bytealg.MakeNoZero"], unfollowed := true, recurses := true, named := ["unicode/utf8.first", "unicode/utf8.acceptRanges", "internal/bytealg.MaxLen"], apart := false, laid := [("unicode/utf8.acceptRanges", laid_unicode_utf8_acceptRanges), ("unicode/utf8.first", laid_unicode_utf8_first)], narrowed := true }
def FlowedBackUptoSaid : Prop := flowedBackUptoRow.holds Tryd.pinned (OpenSpec.upto flowedBackSpec)

end Rows
end Go.Proofs.YtcfhfjjohmdaoaaDoor
