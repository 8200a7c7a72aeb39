/-
  DERIVED. GIVEN WITH THE SEED: THE CARDS: each row of YtabdohophompiaaGreatDoorRows.lean that lists a variable, with what it lists TIED to the program's text (the seventh form; the later family's looks); each row that meets fmt, with fmt's text TOLD by the authors' own Lean function (tested against real Go, not proved from fmt's source: count such statements apart). THE CARD IS WHAT COUNTS. Prove the row's statement (the work); the ties are given (YtabdohophompiaaGreatDoorTie.lean); close each card by the builder's one call (the guide's Derived/Test/ToyasCard.lean, 'card_holds'). Laid BY PROGRAM, IN A SANDBOX (cutbox-door.mjs). By AI agents, Wed Nov 11 2026. No macro, syntax, notation, axiom, sorry.
-/
import Derived.Test.YtabdohophompiaaGreatDoorRows
import GoSem.ClaimSeven
namespace Go.Proofs.YtabdohophompiaaGreatDoor
namespace Rows

/-- THE TIED CARD OF 'sheavelaw36.PextTexts'. -/
def pextTextsCard : Claim7 := { stood := { row := pextTextsRow, standIns := [], harness := (true, "92264e1f39952f20cb0586fce583538db09ca1ebcf647886d75bf211d8d70f4e"), looks := false }, kinds := [], alts := [], laidByText := true, laidKinds := [.data, .data, .data], laidTests := true, laidLooks := .later }
def PextTextsCardSaid : Prop := Claim7.holds Tryz.pinned (.plain (OpenSpec.ofChange pextTextsSpec)) pextTextsCard

/-- THE TIED CARD OF 'sheavelaw36.PextLays'. -/
def pextLaysCard : Claim7 := { stood := { row := pextLaysRow, standIns := [], harness := (true, "92264e1f39952f20cb0586fce583538db09ca1ebcf647886d75bf211d8d70f4e"), looks := false }, kinds := [], alts := [], laidByText := true, laidKinds := [.data, .data, .data], laidTests := true, laidLooks := .later }
def PextLaysCardSaid : Prop := Claim7.holds Tryz.pinned (.plain (OpenSpec.ofChange pextLaysSpec)) pextLaysCard

/-- THE TIED CARD OF 'sheavelaw36.PextRead'. -/
def pextReadCard : Claim7 := { stood := { row := pextReadRow, standIns := [], harness := (true, "92264e1f39952f20cb0586fce583538db09ca1ebcf647886d75bf211d8d70f4e"), looks := false }, kinds := [], alts := [], laidByText := true, laidKinds := [.data, .data, .data], laidTests := true, laidLooks := .later }
def PextReadCardSaid : Prop := Claim7.holds Tryz.pinned (.plain (OpenSpec.ofChange pextReadSpec)) pextReadCard

/-- THE SECOND FORM's CARD OF 'sheavelaw36.PextTexts'. -/
def pextTextsUptoCard : Claim7 := { stood := { row := pextTextsUptoRow, standIns := [], harness := (true, "92264e1f39952f20cb0586fce583538db09ca1ebcf647886d75bf211d8d70f4e"), looks := false }, kinds := [], alts := [], laidByText := true, laidKinds := [.data, .data, .data], laidTests := true, laidLooks := .later }
def PextTextsUptoCardSaid : Prop := Claim7.holds Tryz.pinned (.plain (OpenSpec.upto pextTextsSpec)) pextTextsUptoCard

/-- THE SECOND FORM's CARD OF 'sheavelaw36.PextLays'. -/
def pextLaysUptoCard : Claim7 := { stood := { row := pextLaysUptoRow, standIns := [], harness := (true, "92264e1f39952f20cb0586fce583538db09ca1ebcf647886d75bf211d8d70f4e"), looks := false }, kinds := [], alts := [], laidByText := true, laidKinds := [.data, .data, .data], laidTests := true, laidLooks := .later }
def PextLaysUptoCardSaid : Prop := Claim7.holds Tryz.pinned (.plain (OpenSpec.upto pextLaysSpec)) pextLaysUptoCard

/-- THE SECOND FORM's CARD OF 'sheavelaw36.PextRead'. -/
def pextReadUptoCard : Claim7 := { stood := { row := pextReadUptoRow, standIns := [], harness := (true, "92264e1f39952f20cb0586fce583538db09ca1ebcf647886d75bf211d8d70f4e"), looks := false }, kinds := [], alts := [], laidByText := true, laidKinds := [.data, .data, .data], laidTests := true, laidLooks := .later }
def PextReadUptoCardSaid : Prop := Claim7.holds Tryz.pinned (.plain (OpenSpec.upto pextReadSpec)) pextReadUptoCard
end Rows
end Go.Proofs.YtabdohophompiaaGreatDoor
