/-
  DERIVED. GIVEN WITH THE SEED: THE CARDS: each row of YtopepdfipgfakaaDoorRows.lean that lists a variable, with what it lists TIED to the program's text (the seventh form; the later family's looks); each row that meets fmt, with fmt's text TOLD by the authors' own Lean function (tested against real Go, not proved from fmt's source: count such statements apart). THE CARD IS WHAT COUNTS. Prove the row's statement (the work); the ties are given (YtopepdfipgfakaaDoorTie.lean); close each card by the builder's one call (the guide's Derived/Test/ToyasCard.lean, 'card_holds'). Laid BY PROGRAM, IN A SANDBOX (cutbox-door.mjs). By AI agents, Wed Nov 11 2026. No macro, syntax, notation, axiom, sorry.
-/
import Derived.Test.YtopepdfipgfakaaDoorRows
import GoSem.ClaimSeven
namespace Go.Proofs.YtopepdfipgfakaaDoor
namespace Rows

/-- THE TIED CARD OF 'sheavelaw31.EwcutWhole'. -/
def ewcutWholeCard : Claim7 := { stood := { row := ewcutWholeRow, standIns := [], harness := (true, "c9222f2bf22b3a6dc0bcbdcfcd36dcbf159262ca9e0141d142fa2193c1f5addf"), looks := true }, kinds := [], alts := [], laidByText := true, laidKinds := [.data, .data], laidTests := true, laidLooks := .later }
def EwcutWholeCardSaid : Prop := Claim7.holds Tryd.pinned (.plain (OpenSpec.ofChange ewcutWholeSpec)) ewcutWholeCard

/-- THE SECOND FORM's CARD OF 'sheavelaw31.EwcutWhole'. -/
def ewcutWholeUptoCard : Claim7 := { stood := { row := ewcutWholeUptoRow, standIns := [], harness := (true, "c9222f2bf22b3a6dc0bcbdcfcd36dcbf159262ca9e0141d142fa2193c1f5addf"), looks := true }, kinds := [], alts := [], laidByText := true, laidKinds := [.data, .data], laidTests := true, laidLooks := .later }
def EwcutWholeUptoCardSaid : Prop := Claim7.holds Tryd.pinned (.plain (OpenSpec.upto ewcutWholeSpec)) ewcutWholeUptoCard
end Rows
end Go.Proofs.YtopepdfipgfakaaDoor
