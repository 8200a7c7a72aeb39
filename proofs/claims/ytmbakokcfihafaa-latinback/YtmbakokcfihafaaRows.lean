/-
  No cell of these rows narrows 'for every input' (looked for: loops, veiled, ifaces, maps, wideKeys, modest, calm, conditions, laid).
  DERIVED. THE GIVEN ROWS OF THIS SEAT. 3 by the template 'for every input the law returns true; each argument reads behind the call as it read before'; 0 by the template 'total and deterministic' (their statements: YtmbakokcfihafaaTotals.lean).
  GIVEN WITH THE SEED: the statements are not yours to turn. If you find one false, say at which input.
  Laid BY PROGRAM, IN A SANDBOX (cutbox-rows.mjs): the forced cells as the released guide's own fill.sh prints them over the translation ce9be2e3f761dbf1… (all of the seat's roots in one cut). By AI agents, Wed Nov 11 2026. No macro, syntax, notation, axiom, sorry.
-/
import Derived.Test.YtmbakokcfihafaaChecked
import GoSem.Claim
import GoSem.ClaimJoined
import GoSem.ClaimMapViews
import Derived.JoinedTies
import Derived.KernelRfl
namespace Go.Proofs.Ytmbakokcfihafaa
/- THE CELL 'sum', in the pinned program and in every row, IS THE sha256 OF THE DUMP (.gsa) THAT YtmbakokcfihafaaProg.lean LOADS. Nothing in Lean hashes anything: it is a label: what it is worth is what the hold of that sum in a sandbox is worth. -/
noncomputable def Try.pinned : Pinned := { name := "ytmbakokcfihafaa", sum := "ce9be2e3f761dbf123bd3957bd9d7ce4d117110238e152bd651fd4f07b5c682b", checked := Try.checked }
namespace Rows
def none {H : Type} : Left H := { results := [], args := [] }

/-- 'sheavelaw08.LatinOne': WHATEVER THE INPUT: true; the input reads as it did. -/
def latinOneSpec : ChangeSpec := { name := "latinOne", fn := fun _ => fun
  | [d1, d2] => { results := [.lit (.bool true)], args := [d1, d2] }
  | _ => none }
def latinOneRow : OpenClaim := { program := "ytmbakokcfihafaa", sum := "ce9be2e3f761dbf123bd3957bd9d7ce4d117110238e152bd651fd4f07b5c682b", func := "sheave/sheavelaw08.LatinOne", spec := "latinOne", apart := false }
def LatinOneSaid : Prop := latinOneRow.holds Try.pinned (OpenSpec.ofChange latinOneSpec)

/-- ITS FALSE NEIGHBOUR: 'it returns false'. Refute it at one input. -/
def latinOneWrong : ChangeSpec := { name := "latinOne", fn := fun _ => fun
  | [d1, d2] => { results := [.lit (.bool false)], args := [d1, d2] }
  | _ => none }
def LatinOneWrongFalsely : Prop := latinOneRow.holds Try.pinned (OpenSpec.ofChange latinOneWrong)

/-- 'sheavelaw08.LatinTexts': WHATEVER THE INPUT: true; the input reads as it did. -/
def latinTextsSpec : ChangeSpec := { name := "latinTexts", fn := fun _ => fun
  | [d1, d2] => { results := [.lit (.bool true)], args := [d1, d2] }
  | _ => none }
def latinTextsRow : OpenClaim := { program := "ytmbakokcfihafaa", sum := "ce9be2e3f761dbf123bd3957bd9d7ce4d117110238e152bd651fd4f07b5c682b", func := "sheave/sheavelaw08.LatinTexts", spec := "latinTexts", apart := false }
def LatinTextsSaid : Prop := latinTextsRow.holds Try.pinned (OpenSpec.ofChange latinTextsSpec)

/-- ITS FALSE NEIGHBOUR: 'it returns false'. Refute it at one input. -/
def latinTextsWrong : ChangeSpec := { name := "latinTexts", fn := fun _ => fun
  | [d1, d2] => { results := [.lit (.bool false)], args := [d1, d2] }
  | _ => none }
def LatinTextsWrongFalsely : Prop := latinTextsRow.holds Try.pinned (OpenSpec.ofChange latinTextsWrong)

/-- 'sheavelaw08.LatinBack': WHATEVER THE INPUT: true; the input reads as it did. -/
def latinBackSpec : ChangeSpec := { name := "latinBack", fn := fun _ => fun
  | [d1, d2] => { results := [.lit (.bool true)], args := [d1, d2] }
  | _ => none }
def latinBackRow : OpenClaim := { program := "ytmbakokcfihafaa", sum := "ce9be2e3f761dbf123bd3957bd9d7ce4d117110238e152bd651fd4f07b5c682b", func := "sheave/sheavelaw08.LatinBack", spec := "latinBack", apart := false }
def LatinBackSaid : Prop := latinBackRow.holds Try.pinned (OpenSpec.ofChange latinBackSpec)

/-- ITS FALSE NEIGHBOUR: 'it returns false'. Refute it at one input. -/
def latinBackWrong : ChangeSpec := { name := "latinBack", fn := fun _ => fun
  | [d1, d2] => { results := [.lit (.bool false)], args := [d1, d2] }
  | _ => none }
def LatinBackWrongFalsely : Prop := latinBackRow.holds Try.pinned (OpenSpec.ofChange latinBackWrong)

/- THE SECOND FORM. 'bulk': how many values and letters a reading holds, each counted each time it is reached (what is shared counts as often as it is met; a slice's spare places count too). A statement '..UptoSaid' is the law's where the arguments, and the package variables that the reading takes, are together of bulk at most 1048576: NARROWER than '..Said'. Prove '..Said' where nothing that the law and all that it calls make is longer than what came in: it says more and counts as full. Else prove '..UptoSaid'. A law counts once. -/
mutual
def uptoBulk {H : Type} : DataW H → Nat
  | .lit (.string bytes) => bytes.length + 1
  | .lit _ => 1
  | .nil => 1
  | .ptr d => uptoBulk d + 1
  | .slice elems spare => uptoBulkAll elems + uptoBulkAll spare + 1
  | .agg parts => uptoBulkAll parts + 1
  | .iface _ d => uptoBulk d + 1
  | .map entries => uptoBulkEntries entries + 1
  | .held _ => 1
def uptoBulkAll {H : Type} : List (DataW H) → Nat
  | [] => 0
  | d :: r => uptoBulk d + uptoBulkAll r
def uptoBulkEntries {H : Type} : List (Lit × DataW H) → Nat
  | [] => 0
  | x :: r => uptoBulkEntry x + uptoBulkEntries r
def uptoBulkEntry {H : Type} : Lit × DataW H → Nat
  | (.string bytes, d) => bytes.length + uptoBulk d + 1
  | (_, d) => uptoBulk d + 1
 end
def uptoSmall : (H : Type) → List (DataW H) → Bool := fun _ ds => decide (uptoBulkAll ds ≤ 1048576)
def OpenSpec.upto (s : _root_.Go.ChangeSpec) : _root_.Go.OpenSpec := { _root_.Go.OpenSpec.ofChange s with cond := some uptoSmall }

/-- 'sheavelaw08.LatinOne', WHERE WHAT IT READS IS OF BULK AT MOST 1048576: true; the input reads as it did. -/
def latinOneUptoRow : OpenClaim := { program := "ytmbakokcfihafaa", sum := "ce9be2e3f761dbf123bd3957bd9d7ce4d117110238e152bd651fd4f07b5c682b", func := "sheave/sheavelaw08.LatinOne", spec := "latinOne", apart := false, narrowed := true }
def LatinOneUptoSaid : Prop := latinOneUptoRow.holds Try.pinned (OpenSpec.upto latinOneSpec)

/-- 'sheavelaw08.LatinTexts', WHERE WHAT IT READS IS OF BULK AT MOST 1048576: true; the input reads as it did. -/
def latinTextsUptoRow : OpenClaim := { program := "ytmbakokcfihafaa", sum := "ce9be2e3f761dbf123bd3957bd9d7ce4d117110238e152bd651fd4f07b5c682b", func := "sheave/sheavelaw08.LatinTexts", spec := "latinTexts", apart := false, narrowed := true }
def LatinTextsUptoSaid : Prop := latinTextsUptoRow.holds Try.pinned (OpenSpec.upto latinTextsSpec)

/-- 'sheavelaw08.LatinBack', WHERE WHAT IT READS IS OF BULK AT MOST 1048576: true; the input reads as it did. -/
def latinBackUptoRow : OpenClaim := { program := "ytmbakokcfihafaa", sum := "ce9be2e3f761dbf123bd3957bd9d7ce4d117110238e152bd651fd4f07b5c682b", func := "sheave/sheavelaw08.LatinBack", spec := "latinBack", apart := false, narrowed := true }
def LatinBackUptoSaid : Prop := latinBackUptoRow.holds Try.pinned (OpenSpec.upto latinBackSpec)

end Rows
end Go.Proofs.Ytmbakokcfihafaa
