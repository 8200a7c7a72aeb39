/-
  DERIVED. GIVEN WITH THE SEED: THE CARDS: each row of YtmageajchmoomaaGreatDoorRows.lean that lists a variable, with what it lists TIED to the program's text (the seventh form; the later family's looks); each row that meets fmt, with fmt's text TOLD by the authors' own Lean function (tested against real Go, not proved from fmt's source: count such statements apart). THE CARD IS WHAT COUNTS. Prove the row's statement (the work); the ties are given (YtmageajchmoomaaGreatDoorTie.lean); close each card by the builder's one call (the guide's Derived/Test/ToyasCard.lean, 'card_holds'). Laid BY PROGRAM, IN A SANDBOX (cutbox-door.mjs). By AI agents, Wed Nov 11 2026. No macro, syntax, notation, axiom, sorry.
-/
import Derived.Test.YtmageajchmoomaaGreatDoorRows
import GoSem.ClaimSeven
namespace Go.Proofs.YtmageajchmoomaaGreatDoor
namespace Rows

/-- THE TIED CARD OF 'sheavelaw49.CtypeIs'. -/
def ctypeIsCard : Claim7 := { stood := { row := ctypeIsRow, standIns := [], harness := (true, "247f43cebc2a0c2be0c091a248c8c0732915869c8cb8423f38ca2a84aca124df"), looks := false }, kinds := [], alts := [], laidByText := true, laidKinds := [.data, .pinned], laidTests := true, laidLooks := .later }
def CtypeIsCardSaid : Prop := Claim7.holds Tryz.pinned (.plain (OpenSpec.ofChange ctypeIsSpec)) ctypeIsCard

/-- THE TIED CARD OF 'sheavelaw49.CtypeBack'. -/
def ctypeBackCard : Claim7 := { stood := { row := ctypeBackRow, standIns := [], harness := (true, "247f43cebc2a0c2be0c091a248c8c0732915869c8cb8423f38ca2a84aca124df"), looks := false }, kinds := [], alts := [], laidByText := true, laidKinds := [.data, .data, .data, .data, .pinned], laidTests := true, laidLooks := .later }
def CtypeBackCardSaid : Prop := Claim7.holds Tryz.pinned (.plain (OpenSpec.ofChange ctypeBackSpec)) ctypeBackCard

/-- THE SECOND FORM's CARD OF 'sheavelaw49.CtypeIs'. -/
def ctypeIsUptoCard : Claim7 := { stood := { row := ctypeIsUptoRow, standIns := [], harness := (true, "247f43cebc2a0c2be0c091a248c8c0732915869c8cb8423f38ca2a84aca124df"), looks := false }, kinds := [], alts := [], laidByText := true, laidKinds := [.data, .pinned], laidTests := true, laidLooks := .later }
def CtypeIsUptoCardSaid : Prop := Claim7.holds Tryz.pinned (.plain (OpenSpec.upto ctypeIsSpec)) ctypeIsUptoCard

/-- THE SECOND FORM's CARD OF 'sheavelaw49.CtypeBack'. -/
def ctypeBackUptoCard : Claim7 := { stood := { row := ctypeBackUptoRow, standIns := [], harness := (true, "247f43cebc2a0c2be0c091a248c8c0732915869c8cb8423f38ca2a84aca124df"), looks := false }, kinds := [], alts := [], laidByText := true, laidKinds := [.data, .data, .data, .data, .pinned], laidTests := true, laidLooks := .later }
def CtypeBackUptoCardSaid : Prop := Claim7.holds Tryz.pinned (.plain (OpenSpec.upto ctypeBackSpec)) ctypeBackUptoCard
end Rows
end Go.Proofs.YtmageajchmoomaaGreatDoor
