/-
  DERIVED. GIVEN WITH THE SEED: THE CARDS: each row of YtcbimkaeoojceaaGreatDoorRows.lean that lists a variable, with what it lists TIED to the program's text (the seventh form; the later family's looks); each row that meets fmt, with fmt's text TOLD by the authors' own Lean function (tested against real Go, not proved from fmt's source: count such statements apart). THE CARD IS WHAT COUNTS. Prove the row's statement (the work); the ties are given (YtcbimkaeoojceaaGreatDoorTie.lean); close each card by the builder's one call (the guide's Derived/Test/ToyasCard.lean, 'card_holds'). Laid BY PROGRAM, IN A SANDBOX (cutbox-door.mjs). By AI agents, Wed Nov 11 2026. No macro, syntax, notation, axiom, sorry.
-/
import Derived.Test.YtcbimkaeoojceaaGreatDoorRows
import GoSem.ClaimSeven
namespace Go.Proofs.YtcbimkaeoojceaaGreatDoor
namespace Rows

/-- THE TIED CARD OF 'sheavelaw37.PjoinBack'. -/
def pjoinBackCard : Claim7 := { stood := { row := pjoinBackRow, standIns := [], harness := (true, "845f4968c84048bb7d337f971b734b82542b6959e8514c0d3896358fd9ee3b4d"), looks := false }, kinds := [], alts := [], laidByText := true, laidKinds := [.data, .pinned], laidTests := true, laidLooks := .later }
def PjoinBackCardSaid : Prop := Claim7.holds Tryz.pinned (.plain (OpenSpec.ofChange pjoinBackSpec)) pjoinBackCard

/-- THE TIED CARD OF 'sheavelaw37.PjoinOnce'. -/
def pjoinOnceCard : Claim7 := { stood := { row := pjoinOnceRow, standIns := [], harness := (true, "845f4968c84048bb7d337f971b734b82542b6959e8514c0d3896358fd9ee3b4d"), looks := false }, kinds := [], alts := [], laidByText := true, laidKinds := [.data, .pinned], laidTests := true, laidLooks := .later }
def PjoinOnceCardSaid : Prop := Claim7.holds Tryz.pinned (.plain (OpenSpec.ofChange pjoinOnceSpec)) pjoinOnceCard

/-- THE SECOND FORM's CARD OF 'sheavelaw37.PjoinBack'. -/
def pjoinBackUptoCard : Claim7 := { stood := { row := pjoinBackUptoRow, standIns := [], harness := (true, "845f4968c84048bb7d337f971b734b82542b6959e8514c0d3896358fd9ee3b4d"), looks := false }, kinds := [], alts := [], laidByText := true, laidKinds := [.data, .pinned], laidTests := true, laidLooks := .later }
def PjoinBackUptoCardSaid : Prop := Claim7.holds Tryz.pinned (.plain (OpenSpec.upto pjoinBackSpec)) pjoinBackUptoCard

/-- THE SECOND FORM's CARD OF 'sheavelaw37.PjoinOnce'. -/
def pjoinOnceUptoCard : Claim7 := { stood := { row := pjoinOnceUptoRow, standIns := [], harness := (true, "845f4968c84048bb7d337f971b734b82542b6959e8514c0d3896358fd9ee3b4d"), looks := false }, kinds := [], alts := [], laidByText := true, laidKinds := [.data, .pinned], laidTests := true, laidLooks := .later }
def PjoinOnceUptoCardSaid : Prop := Claim7.holds Tryz.pinned (.plain (OpenSpec.upto pjoinOnceSpec)) pjoinOnceUptoCard
end Rows
end Go.Proofs.YtcbimkaeoojceaaGreatDoor
