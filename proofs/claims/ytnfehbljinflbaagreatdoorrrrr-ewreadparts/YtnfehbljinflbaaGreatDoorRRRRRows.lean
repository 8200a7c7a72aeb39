/-
  NARROWER THAN 'FOR EVERY INPUT', by the rows' own cells (each row's printed sentence says how): EwreadReads: laid · EwreadParts: laid · EwreadShort: laid · EwreadPlain: laid.
  DERIVED. THE GIVEN ROWS OF THIS SEAT. 4 by the template 'for every input the law returns true; each argument reads behind the call as it read before'; 0 by the template 'total and deterministic' (their statements: YtnfehbljinflbaaGreatDoorRRRRTotals.lean).
  GIVEN WITH THE SEED: the statements are not yours to turn. If you find one false, say at which input.
  Laid BY PROGRAM, IN A SANDBOX (cutbox-rows.mjs): the forced cells as the released guide's own fill.sh prints them over the translation a1dab3b3f88ca17c… (all of the seat's roots in one cut). By AI agents, Wed Nov 11 2026. No macro, syntax, notation, axiom, sorry.
-/
import Derived.Test.YtnfehbljinflbaaGreatDoorRRRRChecked
import GoSem.PinnedTables
import GoSem.Claim
import GoSem.ClaimJoined
import GoSem.ClaimMapViews
import Derived.JoinedTies
import Derived.KernelRfl
namespace Go.Proofs.YtnfehbljinflbaaGreatDoorRRRR
/- THE CELL 'sum', in the pinned program and in every row, IS THE sha256 OF THE DUMP (.gsa) THAT YtnfehbljinflbaaGreatDoorRRRRProg.lean LOADS. Nothing in Lean hashes anything: it is a label: what it is worth is what the hold of that sum in a sandbox is worth. -/
noncomputable def Tryz.pinned : Pinned := { name := "ytnfehbljinflbaagreatdoorrrrr", sum := "a1dab3b3f88ca17ccace0a61865aacef0033bd634f1f3bb4dfafad6ae3abf2fb", checked := Tryz.checked }
namespace Rows
def none {H : Type} : Left H := { results := [], args := [] }

/- WHAT THE LISTED PACKAGE-LEVEL VARIABLES READ AS WHEN THE CALL BEGINS. Each datum BY PROGRAM (the guide's laid-datum.mjs) off the statement by which the dump's own 'gosem.cut.vars' lays the variable. In a bare row this is a premise. The card (YtnfehbljinflbaaGreatDoorRRRRCards.lean) ties it to the program's text. -/
def laid_unicode_utf8_acceptRanges {H : Type} : DataW H := .agg [.agg [.lit (.int .u8 128), .lit (.int .u8 191)], .agg [.lit (.int .u8 160), .lit (.int .u8 191)], .agg [.lit (.int .u8 128), .lit (.int .u8 159)], .agg [.lit (.int .u8 144), .lit (.int .u8 191)], .agg [.lit (.int .u8 128), .lit (.int .u8 143)], .agg [.lit (.int .u8 0), .lit (.int .u8 0)], .agg [.lit (.int .u8 0), .lit (.int .u8 0)], .agg [.lit (.int .u8 0), .lit (.int .u8 0)], .agg [.lit (.int .u8 0), .lit (.int .u8 0)], .agg [.lit (.int .u8 0), .lit (.int .u8 0)], .agg [.lit (.int .u8 0), .lit (.int .u8 0)], .agg [.lit (.int .u8 0), .lit (.int .u8 0)], .agg [.lit (.int .u8 0), .lit (.int .u8 0)], .agg [.lit (.int .u8 0), .lit (.int .u8 0)], .agg [.lit (.int .u8 0), .lit (.int .u8 0)], .agg [.lit (.int .u8 0), .lit (.int .u8 0)]]
/-- One of Go's own tables, pinned by name: the form's constant. -/
def laid_unicode_utf8_first : DataW Unit := Go.Pinned.utf8First

/-- 'sheavelaw33.EwreadReads': WHATEVER THE INPUT: true; the input reads as it did. -/
def ewreadReadsSpec : ChangeSpec := { name := "ewreadReads", fn := fun _ => fun
  | [d] => { results := [.lit (.bool true)], args := [d] }
  | _ => none }
def ewreadReadsRow : OpenClaim := { program := "ytnfehbljinflbaagreatdoorrrrr", sum := "a1dab3b3f88ca17ccace0a61865aacef0033bd634f1f3bb4dfafad6ae3abf2fb", func := "sheave/sheavelaw33.EwreadReads", spec := "ewreadReads", inPlace := ["internal/bytealg.IndexByte", "internal/bytealg.Index", "internal/bytealg.IndexByteString", "internal/bytealg.IndexString", "internal/bytealg.Count"], unfollowed := true, recurses := true, named := ["internal/bytealg.MaxLen", "unicode/utf8.first", "unicode/utf8.acceptRanges"], apart := false, laid := [("unicode/utf8.acceptRanges", laid_unicode_utf8_acceptRanges), ("unicode/utf8.first", laid_unicode_utf8_first)] }
def EwreadReadsSaid : Prop := ewreadReadsRow.holds Tryz.pinned (OpenSpec.ofChange ewreadReadsSpec)

/-- ITS FALSE NEIGHBOUR: 'it returns false'. Refute it at one input. -/
def ewreadReadsWrong : ChangeSpec := { name := "ewreadReads", fn := fun _ => fun
  | [d] => { results := [.lit (.bool false)], args := [d] }
  | _ => none }
def EwreadReadsWrongFalsely : Prop := ewreadReadsRow.holds Tryz.pinned (OpenSpec.ofChange ewreadReadsWrong)

/-- 'sheavelaw33.EwreadParts': WHATEVER THE INPUT: true; the input reads as it did. -/
def ewreadPartsSpec : ChangeSpec := { name := "ewreadParts", fn := fun _ => fun
  | [d] => { results := [.lit (.bool true)], args := [d] }
  | _ => none }
def ewreadPartsRow : OpenClaim := { program := "ytnfehbljinflbaagreatdoorrrrr", sum := "a1dab3b3f88ca17ccace0a61865aacef0033bd634f1f3bb4dfafad6ae3abf2fb", func := "sheave/sheavelaw33.EwreadParts", spec := "ewreadParts", inPlace := ["internal/bytealg.IndexByte", "internal/bytealg.Index", "internal/bytealg.IndexByteString", "internal/bytealg.IndexString", "internal/bytealg.Count"], unfollowed := true, recurses := true, named := ["internal/bytealg.MaxLen", "unicode/utf8.first", "unicode/utf8.acceptRanges"], apart := false, laid := [("unicode/utf8.acceptRanges", laid_unicode_utf8_acceptRanges), ("unicode/utf8.first", laid_unicode_utf8_first)] }
def EwreadPartsSaid : Prop := ewreadPartsRow.holds Tryz.pinned (OpenSpec.ofChange ewreadPartsSpec)

/-- ITS FALSE NEIGHBOUR: 'it returns false'. Refute it at one input. -/
def ewreadPartsWrong : ChangeSpec := { name := "ewreadParts", fn := fun _ => fun
  | [d] => { results := [.lit (.bool false)], args := [d] }
  | _ => none }
def EwreadPartsWrongFalsely : Prop := ewreadPartsRow.holds Tryz.pinned (OpenSpec.ofChange ewreadPartsWrong)

/-- 'sheavelaw33.EwreadShort': WHATEVER THE INPUT: true; the input reads as it did. -/
def ewreadShortSpec : ChangeSpec := { name := "ewreadShort", fn := fun _ => fun
  | [d] => { results := [.lit (.bool true)], args := [d] }
  | _ => none }
def ewreadShortRow : OpenClaim := { program := "ytnfehbljinflbaagreatdoorrrrr", sum := "a1dab3b3f88ca17ccace0a61865aacef0033bd634f1f3bb4dfafad6ae3abf2fb", func := "sheave/sheavelaw33.EwreadShort", spec := "ewreadShort", inPlace := ["internal/bytealg.IndexByte", "internal/bytealg.Index", "internal/bytealg.IndexByteString", "internal/bytealg.IndexString", "internal/bytealg.Count"], unfollowed := true, recurses := true, named := ["internal/bytealg.MaxLen", "unicode/utf8.first", "unicode/utf8.acceptRanges"], apart := false, laid := [("unicode/utf8.acceptRanges", laid_unicode_utf8_acceptRanges), ("unicode/utf8.first", laid_unicode_utf8_first)] }
def EwreadShortSaid : Prop := ewreadShortRow.holds Tryz.pinned (OpenSpec.ofChange ewreadShortSpec)

/-- ITS FALSE NEIGHBOUR: 'it returns false'. Refute it at one input. -/
def ewreadShortWrong : ChangeSpec := { name := "ewreadShort", fn := fun _ => fun
  | [d] => { results := [.lit (.bool false)], args := [d] }
  | _ => none }
def EwreadShortWrongFalsely : Prop := ewreadShortRow.holds Tryz.pinned (OpenSpec.ofChange ewreadShortWrong)

/-- 'sheavelaw33.EwreadPlain': WHATEVER THE INPUT: true; the input reads as it did. -/
def ewreadPlainSpec : ChangeSpec := { name := "ewreadPlain", fn := fun _ => fun
  | [d] => { results := [.lit (.bool true)], args := [d] }
  | _ => none }
def ewreadPlainRow : OpenClaim := { program := "ytnfehbljinflbaagreatdoorrrrr", sum := "a1dab3b3f88ca17ccace0a61865aacef0033bd634f1f3bb4dfafad6ae3abf2fb", func := "sheave/sheavelaw33.EwreadPlain", spec := "ewreadPlain", inPlace := ["internal/bytealg.IndexByte", "internal/bytealg.Index", "internal/bytealg.IndexByteString", "internal/bytealg.IndexString", "internal/bytealg.Count"], unfollowed := true, recurses := true, named := ["internal/bytealg.MaxLen", "unicode/utf8.first", "unicode/utf8.acceptRanges"], apart := false, laid := [("unicode/utf8.acceptRanges", laid_unicode_utf8_acceptRanges), ("unicode/utf8.first", laid_unicode_utf8_first)] }
def EwreadPlainSaid : Prop := ewreadPlainRow.holds Tryz.pinned (OpenSpec.ofChange ewreadPlainSpec)

/-- ITS FALSE NEIGHBOUR: 'it returns false'. Refute it at one input. -/
def ewreadPlainWrong : ChangeSpec := { name := "ewreadPlain", fn := fun _ => fun
  | [d] => { results := [.lit (.bool false)], args := [d] }
  | _ => none }
def EwreadPlainWrongFalsely : Prop := ewreadPlainRow.holds Tryz.pinned (OpenSpec.ofChange ewreadPlainWrong)

/- THE SECOND FORM. 'bulk': how many values and letters a reading holds, each counted each time it is reached (what is shared counts as often as it is met; a slice's spare places count too). A statement '..UptoSaid' is the law's where the arguments, and the package variables that the reading takes, are together of bulk at most 1048576: NARROWER than '..Said'. Prove '..Said' where nothing that the law and all that it calls make is longer than what came in: it says more and counts as full. Else prove '..UptoSaid'. A law counts once. -/
mutual
def uptoBulk {H : Type} : DataW H → Nat
  | .lit (.string bytes) => bytes.length + 1
  | .lit _ => 1
  | .nil => 1
  | .ptr d => uptoBulk d + 1
  | .slice elems spare => uptoBulkAll elems + uptoBulkAll spare + 1
  | .agg parts => uptoBulkAll parts + 1
  | .iface _ d => uptoBulk d + 1
  | .map entries => uptoBulkEntries entries + 1
  | .held _ => 1
def uptoBulkAll {H : Type} : List (DataW H) → Nat
  | [] => 0
  | d :: r => uptoBulk d + uptoBulkAll r
def uptoBulkEntries {H : Type} : List (Lit × DataW H) → Nat
  | [] => 0
  | x :: r => uptoBulkEntry x + uptoBulkEntries r
def uptoBulkEntry {H : Type} : Lit × DataW H → Nat
  | (.string bytes, d) => bytes.length + uptoBulk d + 1
  | (_, d) => uptoBulk d + 1
 end
def uptoSmall : (H : Type) → List (DataW H) → Bool := fun _ ds => decide (uptoBulkAll ds ≤ 1048576)
def OpenSpec.upto (s : _root_.Go.ChangeSpec) : _root_.Go.OpenSpec := { _root_.Go.OpenSpec.ofChange s with cond := some uptoSmall }

/-- 'sheavelaw33.EwreadReads', WHERE WHAT IT READS IS OF BULK AT MOST 1048576: true; the input reads as it did. -/
def ewreadReadsUptoRow : OpenClaim := { program := "ytnfehbljinflbaagreatdoorrrrr", sum := "a1dab3b3f88ca17ccace0a61865aacef0033bd634f1f3bb4dfafad6ae3abf2fb", func := "sheave/sheavelaw33.EwreadReads", spec := "ewreadReads", inPlace := ["internal/bytealg.IndexByte", "internal/bytealg.Index", "internal/bytealg.IndexByteString", "internal/bytealg.IndexString", "internal/bytealg.Count"], unfollowed := true, recurses := true, named := ["internal/bytealg.MaxLen", "unicode/utf8.first", "unicode/utf8.acceptRanges"], apart := false, laid := [("unicode/utf8.acceptRanges", laid_unicode_utf8_acceptRanges), ("unicode/utf8.first", laid_unicode_utf8_first)], narrowed := true }
def EwreadReadsUptoSaid : Prop := ewreadReadsUptoRow.holds Tryz.pinned (OpenSpec.upto ewreadReadsSpec)

/-- 'sheavelaw33.EwreadParts', WHERE WHAT IT READS IS OF BULK AT MOST 1048576: true; the input reads as it did. -/
def ewreadPartsUptoRow : OpenClaim := { program := "ytnfehbljinflbaagreatdoorrrrr", sum := "a1dab3b3f88ca17ccace0a61865aacef0033bd634f1f3bb4dfafad6ae3abf2fb", func := "sheave/sheavelaw33.EwreadParts", spec := "ewreadParts", inPlace := ["internal/bytealg.IndexByte", "internal/bytealg.Index", "internal/bytealg.IndexByteString", "internal/bytealg.IndexString", "internal/bytealg.Count"], unfollowed := true, recurses := true, named := ["internal/bytealg.MaxLen", "unicode/utf8.first", "unicode/utf8.acceptRanges"], apart := false, laid := [("unicode/utf8.acceptRanges", laid_unicode_utf8_acceptRanges), ("unicode/utf8.first", laid_unicode_utf8_first)], narrowed := true }
def EwreadPartsUptoSaid : Prop := ewreadPartsUptoRow.holds Tryz.pinned (OpenSpec.upto ewreadPartsSpec)

/-- 'sheavelaw33.EwreadShort', WHERE WHAT IT READS IS OF BULK AT MOST 1048576: true; the input reads as it did. -/
def ewreadShortUptoRow : OpenClaim := { program := "ytnfehbljinflbaagreatdoorrrrr", sum := "a1dab3b3f88ca17ccace0a61865aacef0033bd634f1f3bb4dfafad6ae3abf2fb", func := "sheave/sheavelaw33.EwreadShort", spec := "ewreadShort", inPlace := ["internal/bytealg.IndexByte", "internal/bytealg.Index", "internal/bytealg.IndexByteString", "internal/bytealg.IndexString", "internal/bytealg.Count"], unfollowed := true, recurses := true, named := ["internal/bytealg.MaxLen", "unicode/utf8.first", "unicode/utf8.acceptRanges"], apart := false, laid := [("unicode/utf8.acceptRanges", laid_unicode_utf8_acceptRanges), ("unicode/utf8.first", laid_unicode_utf8_first)], narrowed := true }
def EwreadShortUptoSaid : Prop := ewreadShortUptoRow.holds Tryz.pinned (OpenSpec.upto ewreadShortSpec)

/-- 'sheavelaw33.EwreadPlain', WHERE WHAT IT READS IS OF BULK AT MOST 1048576: true; the input reads as it did. -/
def ewreadPlainUptoRow : OpenClaim := { program := "ytnfehbljinflbaagreatdoorrrrr", sum := "a1dab3b3f88ca17ccace0a61865aacef0033bd634f1f3bb4dfafad6ae3abf2fb", func := "sheave/sheavelaw33.EwreadPlain", spec := "ewreadPlain", inPlace := ["internal/bytealg.IndexByte", "internal/bytealg.Index", "internal/bytealg.IndexByteString", "internal/bytealg.IndexString", "internal/bytealg.Count"], unfollowed := true, recurses := true, named := ["internal/bytealg.MaxLen", "unicode/utf8.first", "unicode/utf8.acceptRanges"], apart := false, laid := [("unicode/utf8.acceptRanges", laid_unicode_utf8_acceptRanges), ("unicode/utf8.first", laid_unicode_utf8_first)], narrowed := true }
def EwreadPlainUptoSaid : Prop := ewreadPlainUptoRow.holds Tryz.pinned (OpenSpec.upto ewreadPlainSpec)

end Rows
end Go.Proofs.YtnfehbljinflbaaGreatDoorRRRR
