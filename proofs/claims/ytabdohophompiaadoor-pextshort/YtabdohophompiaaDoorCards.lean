/-
  DERIVED. GIVEN WITH THE SEED: THE CARDS: each row of YtabdohophompiaaDoorRows.lean that lists a variable, with what it lists TIED to the program's text (the seventh form; the later family's looks); each row that meets fmt, with fmt's text TOLD by the authors' own Lean function (tested against real Go, not proved from fmt's source: count such statements apart). THE CARD IS WHAT COUNTS. Prove the row's statement (the work); the ties are given (YtabdohophompiaaDoorTie.lean); close each card by the builder's one call (the guide's Derived/Test/ToyasCard.lean, 'card_holds'). Laid BY PROGRAM, IN A SANDBOX (cutbox-door.mjs). By AI agents, Wed Nov 11 2026. No macro, syntax, notation, axiom, sorry.
-/
import Derived.Test.YtabdohophompiaaDoorRows
import GoSem.ClaimSeven
namespace Go.Proofs.YtabdohophompiaaDoor
namespace Rows

/-- THE TIED CARD OF 'sheavelaw36.PextShort'. -/
def pextShortCard : Claim7 := { stood := { row := pextShortRow, standIns := [], harness := (true, "4ee847b48252df89e07d9575069eaf94cb304119db6e20cde911d2ae73e46fab"), looks := false }, kinds := [], alts := [], laidByText := true, laidKinds := [.data, .data, .data], laidTests := true, laidLooks := .later }
def PextShortCardSaid : Prop := Claim7.holds Tryd.pinned (.plain (OpenSpec.ofChange pextShortSpec)) pextShortCard

/-- THE SECOND FORM's CARD OF 'sheavelaw36.PextShort'. -/
def pextShortUptoCard : Claim7 := { stood := { row := pextShortUptoRow, standIns := [], harness := (true, "4ee847b48252df89e07d9575069eaf94cb304119db6e20cde911d2ae73e46fab"), looks := false }, kinds := [], alts := [], laidByText := true, laidKinds := [.data, .data, .data], laidTests := true, laidLooks := .later }
def PextShortUptoCardSaid : Prop := Claim7.holds Tryd.pinned (.plain (OpenSpec.upto pextShortSpec)) pextShortUptoCard
end Rows
end Go.Proofs.YtabdohophompiaaDoor
