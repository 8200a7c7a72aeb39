/-
  NARROWER THAN 'FOR EVERY INPUT', by the rows' own cells (each row's printed sentence says how): EwformParses: laid · EwformLays: laid · EwformReads: laid · EwformBack: laid · EwcutCuts: laid · EwcutWords: laid · EwcutRead: laid.
  DERIVED. THE GIVEN ROWS OF THIS SEAT. 7 by the template 'for every input the law returns true; each argument reads behind the call as it read before'; 0 by the template 'total and deterministic' (their statements: YtopepdfipgfakaaGreatDoorTotals.lean).
  GIVEN WITH THE SEED: the statements are not yours to turn. If you find one false, say at which input.
  Laid BY PROGRAM, IN A SANDBOX (cutbox-rows.mjs): the forced cells as the released guide's own fill.sh prints them over the translation 6c8438f6a7ce3003… (all of the seat's roots in one cut). By AI agents, Wed Nov 11 2026. No macro, syntax, notation, axiom, sorry.
-/
import Derived.Test.YtopepdfipgfakaaGreatDoorChecked
import GoSem.PinnedTables
import GoSem.Claim
import GoSem.ClaimJoined
import GoSem.ClaimMapViews
import Derived.JoinedTies
import Derived.KernelRfl
namespace Go.Proofs.YtopepdfipgfakaaGreatDoor
/- THE CELL 'sum', in the pinned program and in every row, IS THE sha256 OF THE DUMP (.gsa) THAT YtopepdfipgfakaaGreatDoorProg.lean LOADS. Nothing in Lean hashes anything: it is a label: what it is worth is what the hold of that sum in a sandbox is worth. -/
noncomputable def Tryz.pinned : Pinned := { name := "ytopepdfipgfakaagreatdoor", sum := "6c8438f6a7ce30034ea5a219b5100eaf5fa0f130dfa8e915c2acec0d5f32923e", checked := Tryz.checked }
namespace Rows
def none {H : Type} : Left H := { results := [], args := [] }

/- WHAT THE LISTED PACKAGE-LEVEL VARIABLES READ AS WHEN THE CALL BEGINS. Each datum BY PROGRAM (the guide's laid-datum.mjs) off the statement by which the dump's own 'gosem.cut.vars' lays the variable. In a bare row this is a premise. The card (YtopepdfipgfakaaGreatDoorCards.lean) ties it to the program's text. -/
def laid_unicode_utf8_acceptRanges {H : Type} : DataW H := .agg [.agg [.lit (.int .u8 128), .lit (.int .u8 191)], .agg [.lit (.int .u8 160), .lit (.int .u8 191)], .agg [.lit (.int .u8 128), .lit (.int .u8 159)], .agg [.lit (.int .u8 144), .lit (.int .u8 191)], .agg [.lit (.int .u8 128), .lit (.int .u8 143)], .agg [.lit (.int .u8 0), .lit (.int .u8 0)], .agg [.lit (.int .u8 0), .lit (.int .u8 0)], .agg [.lit (.int .u8 0), .lit (.int .u8 0)], .agg [.lit (.int .u8 0), .lit (.int .u8 0)], .agg [.lit (.int .u8 0), .lit (.int .u8 0)], .agg [.lit (.int .u8 0), .lit (.int .u8 0)], .agg [.lit (.int .u8 0), .lit (.int .u8 0)], .agg [.lit (.int .u8 0), .lit (.int .u8 0)], .agg [.lit (.int .u8 0), .lit (.int .u8 0)], .agg [.lit (.int .u8 0), .lit (.int .u8 0)], .agg [.lit (.int .u8 0), .lit (.int .u8 0)]]
/-- One of Go's own tables, pinned by name: the form's constant. -/
def laid_unicode_utf8_first : DataW Unit := Go.Pinned.utf8First
def laid_math_bits_deBruijn32tab {H : Type} : DataW H := .agg [.lit (.int .u8 0), .lit (.int .u8 1), .lit (.int .u8 28), .lit (.int .u8 2), .lit (.int .u8 29), .lit (.int .u8 14), .lit (.int .u8 24), .lit (.int .u8 3), .lit (.int .u8 30), .lit (.int .u8 22), .lit (.int .u8 20), .lit (.int .u8 15), .lit (.int .u8 25), .lit (.int .u8 17), .lit (.int .u8 4), .lit (.int .u8 8), .lit (.int .u8 31), .lit (.int .u8 27), .lit (.int .u8 13), .lit (.int .u8 23), .lit (.int .u8 21), .lit (.int .u8 19), .lit (.int .u8 16), .lit (.int .u8 7), .lit (.int .u8 26), .lit (.int .u8 12), .lit (.int .u8 18), .lit (.int .u8 6), .lit (.int .u8 11), .lit (.int .u8 5), .lit (.int .u8 10), .lit (.int .u8 9)]
def laid_math_bits_deBruijn64tab {H : Type} : DataW H := .agg [.lit (.int .u8 0), .lit (.int .u8 1), .lit (.int .u8 56), .lit (.int .u8 2), .lit (.int .u8 57), .lit (.int .u8 49), .lit (.int .u8 28), .lit (.int .u8 3), .lit (.int .u8 61), .lit (.int .u8 58), .lit (.int .u8 42), .lit (.int .u8 50), .lit (.int .u8 38), .lit (.int .u8 29), .lit (.int .u8 17), .lit (.int .u8 4), .lit (.int .u8 62), .lit (.int .u8 47), .lit (.int .u8 59), .lit (.int .u8 36), .lit (.int .u8 45), .lit (.int .u8 43), .lit (.int .u8 51), .lit (.int .u8 22), .lit (.int .u8 53), .lit (.int .u8 39), .lit (.int .u8 33), .lit (.int .u8 30), .lit (.int .u8 24), .lit (.int .u8 18), .lit (.int .u8 12), .lit (.int .u8 5), .lit (.int .u8 63), .lit (.int .u8 55), .lit (.int .u8 48), .lit (.int .u8 27), .lit (.int .u8 60), .lit (.int .u8 41), .lit (.int .u8 37), .lit (.int .u8 16), .lit (.int .u8 46), .lit (.int .u8 35), .lit (.int .u8 44), .lit (.int .u8 21), .lit (.int .u8 52), .lit (.int .u8 32), .lit (.int .u8 23), .lit (.int .u8 11), .lit (.int .u8 54), .lit (.int .u8 26), .lit (.int .u8 40), .lit (.int .u8 15), .lit (.int .u8 34), .lit (.int .u8 20), .lit (.int .u8 31), .lit (.int .u8 10), .lit (.int .u8 25), .lit (.int .u8 14), .lit (.int .u8 19), .lit (.int .u8 9), .lit (.int .u8 13), .lit (.int .u8 8), .lit (.int .u8 7), .lit (.int .u8 6)]

/-- 'sheavelaw29.EwformParses': WHATEVER THE INPUT: true; the input reads as it did. -/
def ewformParsesSpec : ChangeSpec := { name := "ewformParses", fn := fun _ => fun
  | [d] => { results := [.lit (.bool true)], args := [d] }
  | _ => none }
def ewformParsesRow : OpenClaim := { program := "ytopepdfipgfakaagreatdoor", sum := "6c8438f6a7ce30034ea5a219b5100eaf5fa0f130dfa8e915c2acec0d5f32923e", func := "sheave/sheavelaw29.EwformParses", spec := "ewformParses", inPlace := ["internal/bytealg.Count", "internal/bytealg.IndexByte", "internal/bytealg.Index", "internal/bytealg.IndexByteString", "internal/bytealg.MakeNoZero"], unfollowed := true, recurses := true, named := ["unicode/utf8.first", "unicode/utf8.acceptRanges", "internal/bytealg.MaxLen"], apart := false, laid := [("unicode/utf8.acceptRanges", laid_unicode_utf8_acceptRanges), ("unicode/utf8.first", laid_unicode_utf8_first)] }
def EwformParsesSaid : Prop := ewformParsesRow.holds Tryz.pinned (OpenSpec.ofChange ewformParsesSpec)

/-- ITS FALSE NEIGHBOUR: 'it returns false'. Refute it at one input. -/
def ewformParsesWrong : ChangeSpec := { name := "ewformParses", fn := fun _ => fun
  | [d] => { results := [.lit (.bool false)], args := [d] }
  | _ => none }
def EwformParsesWrongFalsely : Prop := ewformParsesRow.holds Tryz.pinned (OpenSpec.ofChange ewformParsesWrong)

/-- 'sheavelaw29.EwformLays': WHATEVER THE INPUT: true; the input reads as it did. -/
def ewformLaysSpec : ChangeSpec := { name := "ewformLays", fn := fun _ => fun
  | [d1, d2, d3] => { results := [.lit (.bool true)], args := [d1, d2, d3] }
  | _ => none }
def ewformLaysRow : OpenClaim := { program := "ytopepdfipgfakaagreatdoor", sum := "6c8438f6a7ce30034ea5a219b5100eaf5fa0f130dfa8e915c2acec0d5f32923e", func := "sheave/sheavelaw29.EwformLays", spec := "ewformLays", inPlace := ["internal/bytealg.Count", "internal/bytealg.IndexByte", "internal/bytealg.Index", "internal/bytealg.IndexByteString", "internal/bytealg.MakeNoZero"], unfollowed := true, recurses := true, named := ["unicode/utf8.first", "unicode/utf8.acceptRanges", "internal/bytealg.MaxLen"], apart := false, laid := [("unicode/utf8.acceptRanges", laid_unicode_utf8_acceptRanges), ("unicode/utf8.first", laid_unicode_utf8_first)] }
def EwformLaysSaid : Prop := ewformLaysRow.holds Tryz.pinned (OpenSpec.ofChange ewformLaysSpec)

/-- ITS FALSE NEIGHBOUR: 'it returns false'. Refute it at one input. -/
def ewformLaysWrong : ChangeSpec := { name := "ewformLays", fn := fun _ => fun
  | [d1, d2, d3] => { results := [.lit (.bool false)], args := [d1, d2, d3] }
  | _ => none }
def EwformLaysWrongFalsely : Prop := ewformLaysRow.holds Tryz.pinned (OpenSpec.ofChange ewformLaysWrong)

/-- 'sheavelaw29.EwformReads': WHATEVER THE INPUT: true; the input reads as it did. -/
def ewformReadsSpec : ChangeSpec := { name := "ewformReads", fn := fun _ => fun
  | [d] => { results := [.lit (.bool true)], args := [d] }
  | _ => none }
def ewformReadsRow : OpenClaim := { program := "ytopepdfipgfakaagreatdoor", sum := "6c8438f6a7ce30034ea5a219b5100eaf5fa0f130dfa8e915c2acec0d5f32923e", func := "sheave/sheavelaw29.EwformReads", spec := "ewformReads", inPlace := ["internal/bytealg.Count", "internal/bytealg.IndexByte", "internal/bytealg.Index", "internal/bytealg.IndexByteString", "internal/bytealg.MakeNoZero"], unfollowed := true, recurses := true, named := ["unicode/utf8.first", "unicode/utf8.acceptRanges", "internal/bytealg.MaxLen"], apart := false, laid := [("unicode/utf8.acceptRanges", laid_unicode_utf8_acceptRanges), ("unicode/utf8.first", laid_unicode_utf8_first)] }
def EwformReadsSaid : Prop := ewformReadsRow.holds Tryz.pinned (OpenSpec.ofChange ewformReadsSpec)

/-- ITS FALSE NEIGHBOUR: 'it returns false'. Refute it at one input. -/
def ewformReadsWrong : ChangeSpec := { name := "ewformReads", fn := fun _ => fun
  | [d] => { results := [.lit (.bool false)], args := [d] }
  | _ => none }
def EwformReadsWrongFalsely : Prop := ewformReadsRow.holds Tryz.pinned (OpenSpec.ofChange ewformReadsWrong)

/-- 'sheavelaw29.EwformBack': WHATEVER THE INPUT: true; the input reads as it did. -/
def ewformBackSpec : ChangeSpec := { name := "ewformBack", fn := fun _ => fun
  | [d1, d2, d3] => { results := [.lit (.bool true)], args := [d1, d2, d3] }
  | _ => none }
def ewformBackRow : OpenClaim := { program := "ytopepdfipgfakaagreatdoor", sum := "6c8438f6a7ce30034ea5a219b5100eaf5fa0f130dfa8e915c2acec0d5f32923e", func := "sheave/sheavelaw29.EwformBack", spec := "ewformBack", inPlace := ["internal/bytealg.Count", "internal/bytealg.IndexByte", "internal/bytealg.Index", "internal/bytealg.IndexByteString", "internal/bytealg.MakeNoZero"], unfollowed := true, recurses := true, named := ["unicode/utf8.first", "unicode/utf8.acceptRanges", "internal/bytealg.MaxLen"], apart := false, laid := [("unicode/utf8.acceptRanges", laid_unicode_utf8_acceptRanges), ("unicode/utf8.first", laid_unicode_utf8_first)] }
def EwformBackSaid : Prop := ewformBackRow.holds Tryz.pinned (OpenSpec.ofChange ewformBackSpec)

/-- ITS FALSE NEIGHBOUR: 'it returns false'. Refute it at one input. -/
def ewformBackWrong : ChangeSpec := { name := "ewformBack", fn := fun _ => fun
  | [d1, d2, d3] => { results := [.lit (.bool false)], args := [d1, d2, d3] }
  | _ => none }
def EwformBackWrongFalsely : Prop := ewformBackRow.holds Tryz.pinned (OpenSpec.ofChange ewformBackWrong)

/-- 'sheavelaw31.EwcutCuts': WHATEVER THE INPUT: true; the input reads as it did. -/
def ewcutCutsSpec : ChangeSpec := { name := "ewcutCuts", fn := fun _ => fun
  | [d1, d2] => { results := [.lit (.bool true)], args := [d1, d2] }
  | _ => none }
def ewcutCutsRow : OpenClaim := { program := "ytopepdfipgfakaagreatdoor", sum := "6c8438f6a7ce30034ea5a219b5100eaf5fa0f130dfa8e915c2acec0d5f32923e", func := "sheave/sheavelaw31.EwcutCuts", spec := "ewcutCuts", inPlace := ["internal/bytealg.IndexByteString", "internal/bytealg.MakeNoZero"], unfollowed := true, recurses := true, named := ["math/bits.deBruijn32tab", "math/bits.deBruijn64tab"], apart := false, laid := [("math/bits.deBruijn32tab", laid_math_bits_deBruijn32tab), ("math/bits.deBruijn64tab", laid_math_bits_deBruijn64tab)] }
def EwcutCutsSaid : Prop := ewcutCutsRow.holds Tryz.pinned (OpenSpec.ofChange ewcutCutsSpec)

/-- ITS FALSE NEIGHBOUR: 'it returns false'. Refute it at one input. -/
def ewcutCutsWrong : ChangeSpec := { name := "ewcutCuts", fn := fun _ => fun
  | [d1, d2] => { results := [.lit (.bool false)], args := [d1, d2] }
  | _ => none }
def EwcutCutsWrongFalsely : Prop := ewcutCutsRow.holds Tryz.pinned (OpenSpec.ofChange ewcutCutsWrong)

/-- 'sheavelaw31.EwcutWords': WHATEVER THE INPUT: true; the input reads as it did. -/
def ewcutWordsSpec : ChangeSpec := { name := "ewcutWords", fn := fun _ => fun
  | [d1, d2] => { results := [.lit (.bool true)], args := [d1, d2] }
  | _ => none }
def ewcutWordsRow : OpenClaim := { program := "ytopepdfipgfakaagreatdoor", sum := "6c8438f6a7ce30034ea5a219b5100eaf5fa0f130dfa8e915c2acec0d5f32923e", func := "sheave/sheavelaw31.EwcutWords", spec := "ewcutWords", inPlace := ["internal/bytealg.IndexByteString", "internal/bytealg.MakeNoZero"], unfollowed := true, recurses := true, named := ["math/bits.deBruijn32tab", "math/bits.deBruijn64tab"], apart := false, laid := [("math/bits.deBruijn32tab", laid_math_bits_deBruijn32tab), ("math/bits.deBruijn64tab", laid_math_bits_deBruijn64tab)] }
def EwcutWordsSaid : Prop := ewcutWordsRow.holds Tryz.pinned (OpenSpec.ofChange ewcutWordsSpec)

/-- ITS FALSE NEIGHBOUR: 'it returns false'. Refute it at one input. -/
def ewcutWordsWrong : ChangeSpec := { name := "ewcutWords", fn := fun _ => fun
  | [d1, d2] => { results := [.lit (.bool false)], args := [d1, d2] }
  | _ => none }
def EwcutWordsWrongFalsely : Prop := ewcutWordsRow.holds Tryz.pinned (OpenSpec.ofChange ewcutWordsWrong)

/-- 'sheavelaw31.EwcutRead': WHATEVER THE INPUT: true; the input reads as it did. -/
def ewcutReadSpec : ChangeSpec := { name := "ewcutRead", fn := fun _ => fun
  | [d1, d2] => { results := [.lit (.bool true)], args := [d1, d2] }
  | _ => none }
def ewcutReadRow : OpenClaim := { program := "ytopepdfipgfakaagreatdoor", sum := "6c8438f6a7ce30034ea5a219b5100eaf5fa0f130dfa8e915c2acec0d5f32923e", func := "sheave/sheavelaw31.EwcutRead", spec := "ewcutRead", inPlace := ["internal/bytealg.IndexByteString", "internal/bytealg.MakeNoZero"], unfollowed := true, recurses := true, named := ["math/bits.deBruijn32tab", "math/bits.deBruijn64tab"], apart := false, laid := [("math/bits.deBruijn32tab", laid_math_bits_deBruijn32tab), ("math/bits.deBruijn64tab", laid_math_bits_deBruijn64tab)] }
def EwcutReadSaid : Prop := ewcutReadRow.holds Tryz.pinned (OpenSpec.ofChange ewcutReadSpec)

/-- ITS FALSE NEIGHBOUR: 'it returns false'. Refute it at one input. -/
def ewcutReadWrong : ChangeSpec := { name := "ewcutRead", fn := fun _ => fun
  | [d1, d2] => { results := [.lit (.bool false)], args := [d1, d2] }
  | _ => none }
def EwcutReadWrongFalsely : Prop := ewcutReadRow.holds Tryz.pinned (OpenSpec.ofChange ewcutReadWrong)

/- THE SECOND FORM. 'bulk': how many values and letters a reading holds, each counted each time it is reached (what is shared counts as often as it is met; a slice's spare places count too). A statement '..UptoSaid' is the law's where the arguments, and the package variables that the reading takes, are together of bulk at most 1048576: NARROWER than '..Said'. Prove '..Said' where nothing that the law and all that it calls make is longer than what came in: it says more and counts as full. Else prove '..UptoSaid'. A law counts once. -/
mutual
def uptoBulk {H : Type} : DataW H → Nat
  | .lit (.string bytes) => bytes.length + 1
  | .lit _ => 1
  | .nil => 1
  | .ptr d => uptoBulk d + 1
  | .slice elems spare => uptoBulkAll elems + uptoBulkAll spare + 1
  | .agg parts => uptoBulkAll parts + 1
  | .iface _ d => uptoBulk d + 1
  | .map entries => uptoBulkEntries entries + 1
  | .held _ => 1
def uptoBulkAll {H : Type} : List (DataW H) → Nat
  | [] => 0
  | d :: r => uptoBulk d + uptoBulkAll r
def uptoBulkEntries {H : Type} : List (Lit × DataW H) → Nat
  | [] => 0
  | x :: r => uptoBulkEntry x + uptoBulkEntries r
def uptoBulkEntry {H : Type} : Lit × DataW H → Nat
  | (.string bytes, d) => bytes.length + uptoBulk d + 1
  | (_, d) => uptoBulk d + 1
 end
def uptoSmall : (H : Type) → List (DataW H) → Bool := fun _ ds => decide (uptoBulkAll ds ≤ 1048576)
def OpenSpec.upto (s : _root_.Go.ChangeSpec) : _root_.Go.OpenSpec := { _root_.Go.OpenSpec.ofChange s with cond := some uptoSmall }

/-- 'sheavelaw29.EwformParses', WHERE WHAT IT READS IS OF BULK AT MOST 1048576: true; the input reads as it did. -/
def ewformParsesUptoRow : OpenClaim := { program := "ytopepdfipgfakaagreatdoor", sum := "6c8438f6a7ce30034ea5a219b5100eaf5fa0f130dfa8e915c2acec0d5f32923e", func := "sheave/sheavelaw29.EwformParses", spec := "ewformParses", inPlace := ["internal/bytealg.Count", "internal/bytealg.IndexByte", "internal/bytealg.Index", "internal/bytealg.IndexByteString", "internal/bytealg.MakeNoZero"], unfollowed := true, recurses := true, named := ["unicode/utf8.first", "unicode/utf8.acceptRanges", "internal/bytealg.MaxLen"], apart := false, laid := [("unicode/utf8.acceptRanges", laid_unicode_utf8_acceptRanges), ("unicode/utf8.first", laid_unicode_utf8_first)], narrowed := true }
def EwformParsesUptoSaid : Prop := ewformParsesUptoRow.holds Tryz.pinned (OpenSpec.upto ewformParsesSpec)

/-- 'sheavelaw29.EwformLays', WHERE WHAT IT READS IS OF BULK AT MOST 1048576: true; the input reads as it did. -/
def ewformLaysUptoRow : OpenClaim := { program := "ytopepdfipgfakaagreatdoor", sum := "6c8438f6a7ce30034ea5a219b5100eaf5fa0f130dfa8e915c2acec0d5f32923e", func := "sheave/sheavelaw29.EwformLays", spec := "ewformLays", inPlace := ["internal/bytealg.Count", "internal/bytealg.IndexByte", "internal/bytealg.Index", "internal/bytealg.IndexByteString", "internal/bytealg.MakeNoZero"], unfollowed := true, recurses := true, named := ["unicode/utf8.first", "unicode/utf8.acceptRanges", "internal/bytealg.MaxLen"], apart := false, laid := [("unicode/utf8.acceptRanges", laid_unicode_utf8_acceptRanges), ("unicode/utf8.first", laid_unicode_utf8_first)], narrowed := true }
def EwformLaysUptoSaid : Prop := ewformLaysUptoRow.holds Tryz.pinned (OpenSpec.upto ewformLaysSpec)

/-- 'sheavelaw29.EwformReads', WHERE WHAT IT READS IS OF BULK AT MOST 1048576: true; the input reads as it did. -/
def ewformReadsUptoRow : OpenClaim := { program := "ytopepdfipgfakaagreatdoor", sum := "6c8438f6a7ce30034ea5a219b5100eaf5fa0f130dfa8e915c2acec0d5f32923e", func := "sheave/sheavelaw29.EwformReads", spec := "ewformReads", inPlace := ["internal/bytealg.Count", "internal/bytealg.IndexByte", "internal/bytealg.Index", "internal/bytealg.IndexByteString", "internal/bytealg.MakeNoZero"], unfollowed := true, recurses := true, named := ["unicode/utf8.first", "unicode/utf8.acceptRanges", "internal/bytealg.MaxLen"], apart := false, laid := [("unicode/utf8.acceptRanges", laid_unicode_utf8_acceptRanges), ("unicode/utf8.first", laid_unicode_utf8_first)], narrowed := true }
def EwformReadsUptoSaid : Prop := ewformReadsUptoRow.holds Tryz.pinned (OpenSpec.upto ewformReadsSpec)

/-- 'sheavelaw29.EwformBack', WHERE WHAT IT READS IS OF BULK AT MOST 1048576: true; the input reads as it did. -/
def ewformBackUptoRow : OpenClaim := { program := "ytopepdfipgfakaagreatdoor", sum := "6c8438f6a7ce30034ea5a219b5100eaf5fa0f130dfa8e915c2acec0d5f32923e", func := "sheave/sheavelaw29.EwformBack", spec := "ewformBack", inPlace := ["internal/bytealg.Count", "internal/bytealg.IndexByte", "internal/bytealg.Index", "internal/bytealg.IndexByteString", "internal/bytealg.MakeNoZero"], unfollowed := true, recurses := true, named := ["unicode/utf8.first", "unicode/utf8.acceptRanges", "internal/bytealg.MaxLen"], apart := false, laid := [("unicode/utf8.acceptRanges", laid_unicode_utf8_acceptRanges), ("unicode/utf8.first", laid_unicode_utf8_first)], narrowed := true }
def EwformBackUptoSaid : Prop := ewformBackUptoRow.holds Tryz.pinned (OpenSpec.upto ewformBackSpec)

/-- 'sheavelaw31.EwcutCuts', WHERE WHAT IT READS IS OF BULK AT MOST 1048576: true; the input reads as it did. -/
def ewcutCutsUptoRow : OpenClaim := { program := "ytopepdfipgfakaagreatdoor", sum := "6c8438f6a7ce30034ea5a219b5100eaf5fa0f130dfa8e915c2acec0d5f32923e", func := "sheave/sheavelaw31.EwcutCuts", spec := "ewcutCuts", inPlace := ["internal/bytealg.IndexByteString", "internal/bytealg.MakeNoZero"], unfollowed := true, recurses := true, named := ["math/bits.deBruijn32tab", "math/bits.deBruijn64tab"], apart := false, laid := [("math/bits.deBruijn32tab", laid_math_bits_deBruijn32tab), ("math/bits.deBruijn64tab", laid_math_bits_deBruijn64tab)], narrowed := true }
def EwcutCutsUptoSaid : Prop := ewcutCutsUptoRow.holds Tryz.pinned (OpenSpec.upto ewcutCutsSpec)

/-- 'sheavelaw31.EwcutWords', WHERE WHAT IT READS IS OF BULK AT MOST 1048576: true; the input reads as it did. -/
def ewcutWordsUptoRow : OpenClaim := { program := "ytopepdfipgfakaagreatdoor", sum := "6c8438f6a7ce30034ea5a219b5100eaf5fa0f130dfa8e915c2acec0d5f32923e", func := "sheave/sheavelaw31.EwcutWords", spec := "ewcutWords", inPlace := ["internal/bytealg.IndexByteString", "internal/bytealg.MakeNoZero"], unfollowed := true, recurses := true, named := ["math/bits.deBruijn32tab", "math/bits.deBruijn64tab"], apart := false, laid := [("math/bits.deBruijn32tab", laid_math_bits_deBruijn32tab), ("math/bits.deBruijn64tab", laid_math_bits_deBruijn64tab)], narrowed := true }
def EwcutWordsUptoSaid : Prop := ewcutWordsUptoRow.holds Tryz.pinned (OpenSpec.upto ewcutWordsSpec)

/-- 'sheavelaw31.EwcutRead', WHERE WHAT IT READS IS OF BULK AT MOST 1048576: true; the input reads as it did. -/
def ewcutReadUptoRow : OpenClaim := { program := "ytopepdfipgfakaagreatdoor", sum := "6c8438f6a7ce30034ea5a219b5100eaf5fa0f130dfa8e915c2acec0d5f32923e", func := "sheave/sheavelaw31.EwcutRead", spec := "ewcutRead", inPlace := ["internal/bytealg.IndexByteString", "internal/bytealg.MakeNoZero"], unfollowed := true, recurses := true, named := ["math/bits.deBruijn32tab", "math/bits.deBruijn64tab"], apart := false, laid := [("math/bits.deBruijn32tab", laid_math_bits_deBruijn32tab), ("math/bits.deBruijn64tab", laid_math_bits_deBruijn64tab)], narrowed := true }
def EwcutReadUptoSaid : Prop := ewcutReadUptoRow.holds Tryz.pinned (OpenSpec.upto ewcutReadSpec)

end Rows
end Go.Proofs.YtopepdfipgfakaaGreatDoor
