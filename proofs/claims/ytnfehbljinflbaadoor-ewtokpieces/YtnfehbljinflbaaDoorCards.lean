/-
  DERIVED. GIVEN WITH THE SEED: THE CARDS: each row of YtnfehbljinflbaaDoorRows.lean that lists a variable, with what it lists TIED to the program's text (the seventh form; the later family's looks); each row that meets fmt, with fmt's text TOLD by the authors' own Lean function (tested against real Go, not proved from fmt's source: count such statements apart). THE CARD IS WHAT COUNTS. Prove the row's statement (the work); the ties are given (YtnfehbljinflbaaDoorTie.lean); close each card by the builder's one call (the guide's Derived/Test/ToyasCard.lean, 'card_holds'). Laid BY PROGRAM, IN A SANDBOX (cutbox-door.mjs). By AI agents, Wed Nov 11 2026. No macro, syntax, notation, axiom, sorry.
-/
import Derived.Test.YtnfehbljinflbaaDoorRows
import GoSem.ClaimSeven
namespace Go.Proofs.YtnfehbljinflbaaDoor
namespace Rows

/-- THE TIED CARD OF 'sheavelaw32.EwtokHidden'. -/
def ewtokHiddenCard : Claim7 := { stood := { row := ewtokHiddenRow, standIns := [], harness := (true, "b2185b6228ed4d3ceb43321fee5f787e93d096ae227e09b6129713ef5ca946d3"), looks := false }, kinds := [], alts := [], laidByText := true, laidKinds := [.data, .pinned], laidTests := true, laidLooks := .later }
def EwtokHiddenCardSaid : Prop := Claim7.holds Tryd.pinned (.plain (OpenSpec.ofChange ewtokHiddenSpec)) ewtokHiddenCard

/-- THE TIED CARD OF 'sheavelaw32.EwtokWhole'. -/
def ewtokWholeCard : Claim7 := { stood := { row := ewtokWholeRow, standIns := [], harness := (true, "b2185b6228ed4d3ceb43321fee5f787e93d096ae227e09b6129713ef5ca946d3"), looks := false }, kinds := [], alts := [], laidByText := true, laidKinds := [.data, .pinned], laidTests := true, laidLooks := .later }
def EwtokWholeCardSaid : Prop := Claim7.holds Tryd.pinned (.plain (OpenSpec.ofChange ewtokWholeSpec)) ewtokWholeCard

/-- THE TIED CARD OF 'sheavelaw32.EwtokPieces'. -/
def ewtokPiecesCard : Claim7 := { stood := { row := ewtokPiecesRow, standIns := [], harness := (true, "b2185b6228ed4d3ceb43321fee5f787e93d096ae227e09b6129713ef5ca946d3"), looks := false }, kinds := [], alts := [], laidByText := true, laidKinds := [.data, .pinned], laidTests := true, laidLooks := .later }
def EwtokPiecesCardSaid : Prop := Claim7.holds Tryd.pinned (.plain (OpenSpec.ofChange ewtokPiecesSpec)) ewtokPiecesCard

/-- THE SECOND FORM's CARD OF 'sheavelaw32.EwtokHidden'. -/
def ewtokHiddenUptoCard : Claim7 := { stood := { row := ewtokHiddenUptoRow, standIns := [], harness := (true, "b2185b6228ed4d3ceb43321fee5f787e93d096ae227e09b6129713ef5ca946d3"), looks := false }, kinds := [], alts := [], laidByText := true, laidKinds := [.data, .pinned], laidTests := true, laidLooks := .later }
def EwtokHiddenUptoCardSaid : Prop := Claim7.holds Tryd.pinned (.plain (OpenSpec.upto ewtokHiddenSpec)) ewtokHiddenUptoCard

/-- THE SECOND FORM's CARD OF 'sheavelaw32.EwtokWhole'. -/
def ewtokWholeUptoCard : Claim7 := { stood := { row := ewtokWholeUptoRow, standIns := [], harness := (true, "b2185b6228ed4d3ceb43321fee5f787e93d096ae227e09b6129713ef5ca946d3"), looks := false }, kinds := [], alts := [], laidByText := true, laidKinds := [.data, .pinned], laidTests := true, laidLooks := .later }
def EwtokWholeUptoCardSaid : Prop := Claim7.holds Tryd.pinned (.plain (OpenSpec.upto ewtokWholeSpec)) ewtokWholeUptoCard

/-- THE SECOND FORM's CARD OF 'sheavelaw32.EwtokPieces'. -/
def ewtokPiecesUptoCard : Claim7 := { stood := { row := ewtokPiecesUptoRow, standIns := [], harness := (true, "b2185b6228ed4d3ceb43321fee5f787e93d096ae227e09b6129713ef5ca946d3"), looks := false }, kinds := [], alts := [], laidByText := true, laidKinds := [.data, .pinned], laidTests := true, laidLooks := .later }
def EwtokPiecesUptoCardSaid : Prop := Claim7.holds Tryd.pinned (.plain (OpenSpec.upto ewtokPiecesSpec)) ewtokPiecesUptoCard
end Rows
end Go.Proofs.YtnfehbljinflbaaDoor
