/-
  NARROWER THAN 'FOR EVERY INPUT', by the rows' own cells (each row's printed sentence says how): QpageChecks: laid · QpageRight: laid · QpageBreaks: laid · QpageLays: laid · QreadLines: laid · QreadShort: laid · QreadReads: laid · QreadBack: laid.
  DERIVED. THE GIVEN ROWS OF THIS SEAT. 8 by the template 'for every input the law returns true; each argument reads behind the call as it read before'; 0 by the template 'total and deterministic' (their statements: YtejhjmmdachijaaDoorTotals.lean).
  GIVEN WITH THE SEED: the statements are not yours to turn. If you find one false, say at which input.
  Laid BY PROGRAM, IN A SANDBOX (cutbox-rows.mjs): the forced cells as the released guide's own fill.sh prints them over the translation c4f0b2c9f9e69165… (all of the seat's roots in one cut). By AI agents, Wed Nov 11 2026. No macro, syntax, notation, axiom, sorry.
-/
import Derived.Test.YtejhjmmdachijaaDoorChecked
import GoSem.PinnedTables
import GoSem.Claim
import GoSem.ClaimJoined
import GoSem.ClaimMapViews
import Derived.JoinedTies
import Derived.KernelRfl
namespace Go.Proofs.YtejhjmmdachijaaDoor
/- THE CELL 'sum', in the pinned program and in every row, IS THE sha256 OF THE DUMP (.gsa) THAT YtejhjmmdachijaaDoorProg.lean LOADS. Nothing in Lean hashes anything: it is a label: what it is worth is what the hold of that sum in a sandbox is worth. -/
noncomputable def Tryd.pinned : Pinned := { name := "ytejhjmmdachijaadoor", sum := "c4f0b2c9f9e69165cee1a6a6f47b9aef4149ced698a1e56de6b12f99ecb545d7", checked := Tryd.checked }
namespace Rows
def none {H : Type} : Left H := { results := [], args := [] }

/- WHAT THE LISTED PACKAGE-LEVEL VARIABLES READ AS WHEN THE CALL BEGINS. Each datum BY PROGRAM (the guide's laid-datum.mjs) off the statement by which the dump's own 'gosem.cut.vars' lays the variable. In a bare row this is a premise. The card (YtejhjmmdachijaaDoorCards.lean) ties it to the program's text. -/
def laid_unicode_utf8_acceptRanges {H : Type} : DataW H := .agg [.agg [.lit (.int .u8 128), .lit (.int .u8 191)], .agg [.lit (.int .u8 160), .lit (.int .u8 191)], .agg [.lit (.int .u8 128), .lit (.int .u8 159)], .agg [.lit (.int .u8 144), .lit (.int .u8 191)], .agg [.lit (.int .u8 128), .lit (.int .u8 143)], .agg [.lit (.int .u8 0), .lit (.int .u8 0)], .agg [.lit (.int .u8 0), .lit (.int .u8 0)], .agg [.lit (.int .u8 0), .lit (.int .u8 0)], .agg [.lit (.int .u8 0), .lit (.int .u8 0)], .agg [.lit (.int .u8 0), .lit (.int .u8 0)], .agg [.lit (.int .u8 0), .lit (.int .u8 0)], .agg [.lit (.int .u8 0), .lit (.int .u8 0)], .agg [.lit (.int .u8 0), .lit (.int .u8 0)], .agg [.lit (.int .u8 0), .lit (.int .u8 0)], .agg [.lit (.int .u8 0), .lit (.int .u8 0)], .agg [.lit (.int .u8 0), .lit (.int .u8 0)]]
/-- One of Go's own tables, pinned by name: the form's constant. -/
def laid_unicode_utf8_first : DataW Unit := Go.Pinned.utf8First

/-- 'sheavelaw18.QpageChecks': WHATEVER THE INPUT: true; the input reads as it did. -/
def qpageChecksSpec : ChangeSpec := { name := "qpageChecks", fn := fun _ => fun
  | [d] => { results := [.lit (.bool true)], args := [d] }
  | _ => none }
def qpageChecksRow : OpenClaim := { program := "ytejhjmmdachijaadoor", sum := "c4f0b2c9f9e69165cee1a6a6f47b9aef4149ced698a1e56de6b12f99ecb545d7", func := "sheave/sheavelaw18.QpageChecks", spec := "qpageChecks", inPlace := ["internal/bytealg.IndexByteString", "internal/bytealg.IndexByte", "internal/bytealg.Index", "internal/bytealg.IndexString", "internal/bytealg.Count"], unfollowed := true, recurses := true, named := ["internal/bytealg.MaxLen", "unicode/utf8.first", "unicode/utf8.acceptRanges"], apart := false, laid := [("unicode/utf8.acceptRanges", laid_unicode_utf8_acceptRanges), ("unicode/utf8.first", laid_unicode_utf8_first)] }
def QpageChecksSaid : Prop := qpageChecksRow.holds Tryd.pinned (OpenSpec.ofChange qpageChecksSpec)

/-- ITS FALSE NEIGHBOUR: 'it returns false'. Refute it at one input. -/
def qpageChecksWrong : ChangeSpec := { name := "qpageChecks", fn := fun _ => fun
  | [d] => { results := [.lit (.bool false)], args := [d] }
  | _ => none }
def QpageChecksWrongFalsely : Prop := qpageChecksRow.holds Tryd.pinned (OpenSpec.ofChange qpageChecksWrong)

/-- 'sheavelaw18.QpageRight': WHATEVER THE INPUT: true; the input reads as it did. -/
def qpageRightSpec : ChangeSpec := { name := "qpageRight", fn := fun _ => fun
  | [d] => { results := [.lit (.bool true)], args := [d] }
  | _ => none }
def qpageRightRow : OpenClaim := { program := "ytejhjmmdachijaadoor", sum := "c4f0b2c9f9e69165cee1a6a6f47b9aef4149ced698a1e56de6b12f99ecb545d7", func := "sheave/sheavelaw18.QpageRight", spec := "qpageRight", inPlace := ["internal/bytealg.IndexByteString", "internal/bytealg.IndexByte", "internal/bytealg.Index", "internal/bytealg.IndexString", "internal/bytealg.Count"], unfollowed := true, recurses := true, named := ["internal/bytealg.MaxLen", "unicode/utf8.first", "unicode/utf8.acceptRanges"], apart := false, laid := [("unicode/utf8.acceptRanges", laid_unicode_utf8_acceptRanges), ("unicode/utf8.first", laid_unicode_utf8_first)] }
def QpageRightSaid : Prop := qpageRightRow.holds Tryd.pinned (OpenSpec.ofChange qpageRightSpec)

/-- ITS FALSE NEIGHBOUR: 'it returns false'. Refute it at one input. -/
def qpageRightWrong : ChangeSpec := { name := "qpageRight", fn := fun _ => fun
  | [d] => { results := [.lit (.bool false)], args := [d] }
  | _ => none }
def QpageRightWrongFalsely : Prop := qpageRightRow.holds Tryd.pinned (OpenSpec.ofChange qpageRightWrong)

/-- 'sheavelaw18.QpageBreaks': WHATEVER THE INPUT: true; the input reads as it did. -/
def qpageBreaksSpec : ChangeSpec := { name := "qpageBreaks", fn := fun _ => fun
  | [d] => { results := [.lit (.bool true)], args := [d] }
  | _ => none }
def qpageBreaksRow : OpenClaim := { program := "ytejhjmmdachijaadoor", sum := "c4f0b2c9f9e69165cee1a6a6f47b9aef4149ced698a1e56de6b12f99ecb545d7", func := "sheave/sheavelaw18.QpageBreaks", spec := "qpageBreaks", inPlace := ["internal/bytealg.IndexByteString", "internal/bytealg.IndexByte", "internal/bytealg.Index", "internal/bytealg.IndexString", "internal/bytealg.Count"], unfollowed := true, recurses := true, named := ["internal/bytealg.MaxLen", "unicode/utf8.first", "unicode/utf8.acceptRanges"], apart := false, laid := [("unicode/utf8.acceptRanges", laid_unicode_utf8_acceptRanges), ("unicode/utf8.first", laid_unicode_utf8_first)] }
def QpageBreaksSaid : Prop := qpageBreaksRow.holds Tryd.pinned (OpenSpec.ofChange qpageBreaksSpec)

/-- ITS FALSE NEIGHBOUR: 'it returns false'. Refute it at one input. -/
def qpageBreaksWrong : ChangeSpec := { name := "qpageBreaks", fn := fun _ => fun
  | [d] => { results := [.lit (.bool false)], args := [d] }
  | _ => none }
def QpageBreaksWrongFalsely : Prop := qpageBreaksRow.holds Tryd.pinned (OpenSpec.ofChange qpageBreaksWrong)

/-- 'sheavelaw18.QpageLays': WHATEVER THE INPUT: true; the input reads as it did. -/
def qpageLaysSpec : ChangeSpec := { name := "qpageLays", fn := fun _ => fun
  | [d1, d2, d3] => { results := [.lit (.bool true)], args := [d1, d2, d3] }
  | _ => none }
def qpageLaysRow : OpenClaim := { program := "ytejhjmmdachijaadoor", sum := "c4f0b2c9f9e69165cee1a6a6f47b9aef4149ced698a1e56de6b12f99ecb545d7", func := "sheave/sheavelaw18.QpageLays", spec := "qpageLays", inPlace := ["internal/bytealg.IndexByteString", "internal/bytealg.IndexByte", "internal/bytealg.Index", "internal/bytealg.IndexString", "internal/bytealg.Count"], unfollowed := true, recurses := true, named := ["internal/bytealg.MaxLen", "unicode/utf8.first", "unicode/utf8.acceptRanges"], apart := false, laid := [("unicode/utf8.acceptRanges", laid_unicode_utf8_acceptRanges), ("unicode/utf8.first", laid_unicode_utf8_first)] }
def QpageLaysSaid : Prop := qpageLaysRow.holds Tryd.pinned (OpenSpec.ofChange qpageLaysSpec)

/-- ITS FALSE NEIGHBOUR: 'it returns false'. Refute it at one input. -/
def qpageLaysWrong : ChangeSpec := { name := "qpageLays", fn := fun _ => fun
  | [d1, d2, d3] => { results := [.lit (.bool false)], args := [d1, d2, d3] }
  | _ => none }
def QpageLaysWrongFalsely : Prop := qpageLaysRow.holds Tryd.pinned (OpenSpec.ofChange qpageLaysWrong)

/-- 'sheavelaw19.QreadLines': WHATEVER THE INPUT: true; the input reads as it did. -/
def qreadLinesSpec : ChangeSpec := { name := "qreadLines", fn := fun _ => fun
  | [d] => { results := [.lit (.bool true)], args := [d] }
  | _ => none }
def qreadLinesRow : OpenClaim := { program := "ytejhjmmdachijaadoor", sum := "c4f0b2c9f9e69165cee1a6a6f47b9aef4149ced698a1e56de6b12f99ecb545d7", func := "sheave/sheavelaw19.QreadLines", spec := "qreadLines", inPlace := ["internal/bytealg.IndexByteString", "internal/bytealg.IndexByte", "internal/bytealg.Index", "internal/bytealg.IndexString"], unfollowed := true, recurses := true, named := ["internal/bytealg.MaxLen", "unicode/utf8.first", "unicode/utf8.acceptRanges"], apart := false, laid := [("unicode/utf8.acceptRanges", laid_unicode_utf8_acceptRanges), ("unicode/utf8.first", laid_unicode_utf8_first)] }
def QreadLinesSaid : Prop := qreadLinesRow.holds Tryd.pinned (OpenSpec.ofChange qreadLinesSpec)

/-- ITS FALSE NEIGHBOUR: 'it returns false'. Refute it at one input. -/
def qreadLinesWrong : ChangeSpec := { name := "qreadLines", fn := fun _ => fun
  | [d] => { results := [.lit (.bool false)], args := [d] }
  | _ => none }
def QreadLinesWrongFalsely : Prop := qreadLinesRow.holds Tryd.pinned (OpenSpec.ofChange qreadLinesWrong)

/-- 'sheavelaw19.QreadShort': WHATEVER THE INPUT: true; the input reads as it did. -/
def qreadShortSpec : ChangeSpec := { name := "qreadShort", fn := fun _ => fun
  | [d] => { results := [.lit (.bool true)], args := [d] }
  | _ => none }
def qreadShortRow : OpenClaim := { program := "ytejhjmmdachijaadoor", sum := "c4f0b2c9f9e69165cee1a6a6f47b9aef4149ced698a1e56de6b12f99ecb545d7", func := "sheave/sheavelaw19.QreadShort", spec := "qreadShort", inPlace := ["internal/bytealg.IndexByteString", "internal/bytealg.IndexByte", "internal/bytealg.Index", "internal/bytealg.IndexString"], unfollowed := true, recurses := true, named := ["internal/bytealg.MaxLen", "unicode/utf8.first", "unicode/utf8.acceptRanges"], apart := false, laid := [("unicode/utf8.acceptRanges", laid_unicode_utf8_acceptRanges), ("unicode/utf8.first", laid_unicode_utf8_first)] }
def QreadShortSaid : Prop := qreadShortRow.holds Tryd.pinned (OpenSpec.ofChange qreadShortSpec)

/-- ITS FALSE NEIGHBOUR: 'it returns false'. Refute it at one input. -/
def qreadShortWrong : ChangeSpec := { name := "qreadShort", fn := fun _ => fun
  | [d] => { results := [.lit (.bool false)], args := [d] }
  | _ => none }
def QreadShortWrongFalsely : Prop := qreadShortRow.holds Tryd.pinned (OpenSpec.ofChange qreadShortWrong)

/-- 'sheavelaw19.QreadReads': WHATEVER THE INPUT: true; the input reads as it did. -/
def qreadReadsSpec : ChangeSpec := { name := "qreadReads", fn := fun _ => fun
  | [d] => { results := [.lit (.bool true)], args := [d] }
  | _ => none }
def qreadReadsRow : OpenClaim := { program := "ytejhjmmdachijaadoor", sum := "c4f0b2c9f9e69165cee1a6a6f47b9aef4149ced698a1e56de6b12f99ecb545d7", func := "sheave/sheavelaw19.QreadReads", spec := "qreadReads", inPlace := ["internal/bytealg.IndexByteString", "internal/bytealg.IndexByte", "internal/bytealg.Index", "internal/bytealg.IndexString"], unfollowed := true, recurses := true, named := ["internal/bytealg.MaxLen", "unicode/utf8.first", "unicode/utf8.acceptRanges"], apart := false, laid := [("unicode/utf8.acceptRanges", laid_unicode_utf8_acceptRanges), ("unicode/utf8.first", laid_unicode_utf8_first)] }
def QreadReadsSaid : Prop := qreadReadsRow.holds Tryd.pinned (OpenSpec.ofChange qreadReadsSpec)

/-- ITS FALSE NEIGHBOUR: 'it returns false'. Refute it at one input. -/
def qreadReadsWrong : ChangeSpec := { name := "qreadReads", fn := fun _ => fun
  | [d] => { results := [.lit (.bool false)], args := [d] }
  | _ => none }
def QreadReadsWrongFalsely : Prop := qreadReadsRow.holds Tryd.pinned (OpenSpec.ofChange qreadReadsWrong)

/-- 'sheavelaw19.QreadBack': WHATEVER THE INPUT: true; the input reads as it did. -/
def qreadBackSpec : ChangeSpec := { name := "qreadBack", fn := fun _ => fun
  | [d] => { results := [.lit (.bool true)], args := [d] }
  | _ => none }
def qreadBackRow : OpenClaim := { program := "ytejhjmmdachijaadoor", sum := "c4f0b2c9f9e69165cee1a6a6f47b9aef4149ced698a1e56de6b12f99ecb545d7", func := "sheave/sheavelaw19.QreadBack", spec := "qreadBack", inPlace := ["internal/bytealg.IndexByteString", "internal/bytealg.IndexByte", "internal/bytealg.Index", "internal/bytealg.IndexString"], unfollowed := true, recurses := true, named := ["internal/bytealg.MaxLen", "unicode/utf8.first", "unicode/utf8.acceptRanges"], apart := false, laid := [("unicode/utf8.acceptRanges", laid_unicode_utf8_acceptRanges), ("unicode/utf8.first", laid_unicode_utf8_first)] }
def QreadBackSaid : Prop := qreadBackRow.holds Tryd.pinned (OpenSpec.ofChange qreadBackSpec)

/-- ITS FALSE NEIGHBOUR: 'it returns false'. Refute it at one input. -/
def qreadBackWrong : ChangeSpec := { name := "qreadBack", fn := fun _ => fun
  | [d] => { results := [.lit (.bool false)], args := [d] }
  | _ => none }
def QreadBackWrongFalsely : Prop := qreadBackRow.holds Tryd.pinned (OpenSpec.ofChange qreadBackWrong)

/- THE SECOND FORM. 'bulk': how many values and letters a reading holds, each counted each time it is reached (what is shared counts as often as it is met; a slice's spare places count too). A statement '..UptoSaid' is the law's where the arguments, and the package variables that the reading takes, are together of bulk at most 1048576: NARROWER than '..Said'. Prove '..Said' where nothing that the law and all that it calls make is longer than what came in: it says more and counts as full. Else prove '..UptoSaid'. A law counts once. -/
mutual
def uptoBulk {H : Type} : DataW H → Nat
  | .lit (.string bytes) => bytes.length + 1
  | .lit _ => 1
  | .nil => 1
  | .ptr d => uptoBulk d + 1
  | .slice elems spare => uptoBulkAll elems + uptoBulkAll spare + 1
  | .agg parts => uptoBulkAll parts + 1
  | .iface _ d => uptoBulk d + 1
  | .map entries => uptoBulkEntries entries + 1
  | .held _ => 1
def uptoBulkAll {H : Type} : List (DataW H) → Nat
  | [] => 0
  | d :: r => uptoBulk d + uptoBulkAll r
def uptoBulkEntries {H : Type} : List (Lit × DataW H) → Nat
  | [] => 0
  | x :: r => uptoBulkEntry x + uptoBulkEntries r
def uptoBulkEntry {H : Type} : Lit × DataW H → Nat
  | (.string bytes, d) => bytes.length + uptoBulk d + 1
  | (_, d) => uptoBulk d + 1
 end
def uptoSmall : (H : Type) → List (DataW H) → Bool := fun _ ds => decide (uptoBulkAll ds ≤ 1048576)
def OpenSpec.upto (s : _root_.Go.ChangeSpec) : _root_.Go.OpenSpec := { _root_.Go.OpenSpec.ofChange s with cond := some uptoSmall }

/-- 'sheavelaw18.QpageChecks', WHERE WHAT IT READS IS OF BULK AT MOST 1048576: true; the input reads as it did. -/
def qpageChecksUptoRow : OpenClaim := { program := "ytejhjmmdachijaadoor", sum := "c4f0b2c9f9e69165cee1a6a6f47b9aef4149ced698a1e56de6b12f99ecb545d7", func := "sheave/sheavelaw18.QpageChecks", spec := "qpageChecks", inPlace := ["internal/bytealg.IndexByteString", "internal/bytealg.IndexByte", "internal/bytealg.Index", "internal/bytealg.IndexString", "internal/bytealg.Count"], unfollowed := true, recurses := true, named := ["internal/bytealg.MaxLen", "unicode/utf8.first", "unicode/utf8.acceptRanges"], apart := false, laid := [("unicode/utf8.acceptRanges", laid_unicode_utf8_acceptRanges), ("unicode/utf8.first", laid_unicode_utf8_first)], narrowed := true }
def QpageChecksUptoSaid : Prop := qpageChecksUptoRow.holds Tryd.pinned (OpenSpec.upto qpageChecksSpec)

/-- 'sheavelaw18.QpageRight', WHERE WHAT IT READS IS OF BULK AT MOST 1048576: true; the input reads as it did. -/
def qpageRightUptoRow : OpenClaim := { program := "ytejhjmmdachijaadoor", sum := "c4f0b2c9f9e69165cee1a6a6f47b9aef4149ced698a1e56de6b12f99ecb545d7", func := "sheave/sheavelaw18.QpageRight", spec := "qpageRight", inPlace := ["internal/bytealg.IndexByteString", "internal/bytealg.IndexByte", "internal/bytealg.Index", "internal/bytealg.IndexString", "internal/bytealg.Count"], unfollowed := true, recurses := true, named := ["internal/bytealg.MaxLen", "unicode/utf8.first", "unicode/utf8.acceptRanges"], apart := false, laid := [("unicode/utf8.acceptRanges", laid_unicode_utf8_acceptRanges), ("unicode/utf8.first", laid_unicode_utf8_first)], narrowed := true }
def QpageRightUptoSaid : Prop := qpageRightUptoRow.holds Tryd.pinned (OpenSpec.upto qpageRightSpec)

/-- 'sheavelaw18.QpageBreaks', WHERE WHAT IT READS IS OF BULK AT MOST 1048576: true; the input reads as it did. -/
def qpageBreaksUptoRow : OpenClaim := { program := "ytejhjmmdachijaadoor", sum := "c4f0b2c9f9e69165cee1a6a6f47b9aef4149ced698a1e56de6b12f99ecb545d7", func := "sheave/sheavelaw18.QpageBreaks", spec := "qpageBreaks", inPlace := ["internal/bytealg.IndexByteString", "internal/bytealg.IndexByte", "internal/bytealg.Index", "internal/bytealg.IndexString", "internal/bytealg.Count"], unfollowed := true, recurses := true, named := ["internal/bytealg.MaxLen", "unicode/utf8.first", "unicode/utf8.acceptRanges"], apart := false, laid := [("unicode/utf8.acceptRanges", laid_unicode_utf8_acceptRanges), ("unicode/utf8.first", laid_unicode_utf8_first)], narrowed := true }
def QpageBreaksUptoSaid : Prop := qpageBreaksUptoRow.holds Tryd.pinned (OpenSpec.upto qpageBreaksSpec)

/-- 'sheavelaw18.QpageLays', WHERE WHAT IT READS IS OF BULK AT MOST 1048576: true; the input reads as it did. -/
def qpageLaysUptoRow : OpenClaim := { program := "ytejhjmmdachijaadoor", sum := "c4f0b2c9f9e69165cee1a6a6f47b9aef4149ced698a1e56de6b12f99ecb545d7", func := "sheave/sheavelaw18.QpageLays", spec := "qpageLays", inPlace := ["internal/bytealg.IndexByteString", "internal/bytealg.IndexByte", "internal/bytealg.Index", "internal/bytealg.IndexString", "internal/bytealg.Count"], unfollowed := true, recurses := true, named := ["internal/bytealg.MaxLen", "unicode/utf8.first", "unicode/utf8.acceptRanges"], apart := false, laid := [("unicode/utf8.acceptRanges", laid_unicode_utf8_acceptRanges), ("unicode/utf8.first", laid_unicode_utf8_first)], narrowed := true }
def QpageLaysUptoSaid : Prop := qpageLaysUptoRow.holds Tryd.pinned (OpenSpec.upto qpageLaysSpec)

/-- 'sheavelaw19.QreadLines', WHERE WHAT IT READS IS OF BULK AT MOST 1048576: true; the input reads as it did. -/
def qreadLinesUptoRow : OpenClaim := { program := "ytejhjmmdachijaadoor", sum := "c4f0b2c9f9e69165cee1a6a6f47b9aef4149ced698a1e56de6b12f99ecb545d7", func := "sheave/sheavelaw19.QreadLines", spec := "qreadLines", inPlace := ["internal/bytealg.IndexByteString", "internal/bytealg.IndexByte", "internal/bytealg.Index", "internal/bytealg.IndexString"], unfollowed := true, recurses := true, named := ["internal/bytealg.MaxLen", "unicode/utf8.first", "unicode/utf8.acceptRanges"], apart := false, laid := [("unicode/utf8.acceptRanges", laid_unicode_utf8_acceptRanges), ("unicode/utf8.first", laid_unicode_utf8_first)], narrowed := true }
def QreadLinesUptoSaid : Prop := qreadLinesUptoRow.holds Tryd.pinned (OpenSpec.upto qreadLinesSpec)

/-- 'sheavelaw19.QreadShort', WHERE WHAT IT READS IS OF BULK AT MOST 1048576: true; the input reads as it did. -/
def qreadShortUptoRow : OpenClaim := { program := "ytejhjmmdachijaadoor", sum := "c4f0b2c9f9e69165cee1a6a6f47b9aef4149ced698a1e56de6b12f99ecb545d7", func := "sheave/sheavelaw19.QreadShort", spec := "qreadShort", inPlace := ["internal/bytealg.IndexByteString", "internal/bytealg.IndexByte", "internal/bytealg.Index", "internal/bytealg.IndexString"], unfollowed := true, recurses := true, named := ["internal/bytealg.MaxLen", "unicode/utf8.first", "unicode/utf8.acceptRanges"], apart := false, laid := [("unicode/utf8.acceptRanges", laid_unicode_utf8_acceptRanges), ("unicode/utf8.first", laid_unicode_utf8_first)], narrowed := true }
def QreadShortUptoSaid : Prop := qreadShortUptoRow.holds Tryd.pinned (OpenSpec.upto qreadShortSpec)

/-- 'sheavelaw19.QreadReads', WHERE WHAT IT READS IS OF BULK AT MOST 1048576: true; the input reads as it did. -/
def qreadReadsUptoRow : OpenClaim := { program := "ytejhjmmdachijaadoor", sum := "c4f0b2c9f9e69165cee1a6a6f47b9aef4149ced698a1e56de6b12f99ecb545d7", func := "sheave/sheavelaw19.QreadReads", spec := "qreadReads", inPlace := ["internal/bytealg.IndexByteString", "internal/bytealg.IndexByte", "internal/bytealg.Index", "internal/bytealg.IndexString"], unfollowed := true, recurses := true, named := ["internal/bytealg.MaxLen", "unicode/utf8.first", "unicode/utf8.acceptRanges"], apart := false, laid := [("unicode/utf8.acceptRanges", laid_unicode_utf8_acceptRanges), ("unicode/utf8.first", laid_unicode_utf8_first)], narrowed := true }
def QreadReadsUptoSaid : Prop := qreadReadsUptoRow.holds Tryd.pinned (OpenSpec.upto qreadReadsSpec)

/-- 'sheavelaw19.QreadBack', WHERE WHAT IT READS IS OF BULK AT MOST 1048576: true; the input reads as it did. -/
def qreadBackUptoRow : OpenClaim := { program := "ytejhjmmdachijaadoor", sum := "c4f0b2c9f9e69165cee1a6a6f47b9aef4149ced698a1e56de6b12f99ecb545d7", func := "sheave/sheavelaw19.QreadBack", spec := "qreadBack", inPlace := ["internal/bytealg.IndexByteString", "internal/bytealg.IndexByte", "internal/bytealg.Index", "internal/bytealg.IndexString"], unfollowed := true, recurses := true, named := ["internal/bytealg.MaxLen", "unicode/utf8.first", "unicode/utf8.acceptRanges"], apart := false, laid := [("unicode/utf8.acceptRanges", laid_unicode_utf8_acceptRanges), ("unicode/utf8.first", laid_unicode_utf8_first)], narrowed := true }
def QreadBackUptoSaid : Prop := qreadBackUptoRow.holds Tryd.pinned (OpenSpec.upto qreadBackSpec)

end Rows
end Go.Proofs.YtejhjmmdachijaaDoor
