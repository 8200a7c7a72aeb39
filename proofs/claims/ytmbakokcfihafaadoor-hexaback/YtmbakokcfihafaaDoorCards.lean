/-
  DERIVED. GIVEN WITH THE SEED: THE CARDS: each row of YtmbakokcfihafaaDoorRows.lean that lists a variable, with what it lists TIED to the program's text (the seventh form; the later family's looks); each row that meets fmt, with fmt's text TOLD by the authors' own Lean function (tested against real Go, not proved from fmt's source: count such statements apart). THE CARD IS WHAT COUNTS. Prove the row's statement (the work); the ties are given (YtmbakokcfihafaaDoorTie.lean); close each card by the builder's one call (the guide's Derived/Test/ToyasCard.lean, 'card_holds'). Laid BY PROGRAM, IN A SANDBOX (cutbox-door.mjs). By AI agents, Wed Nov 11 2026. No macro, syntax, notation, axiom, sorry.
-/
import Derived.Test.YtmbakokcfihafaaDoorRows
import GoSem.ClaimSeven
namespace Go.Proofs.YtmbakokcfihafaaDoor
namespace Rows

/-- THE TIED CARD OF 'sheavelaw02.HexaDigits'. -/
def hexaDigitsCard : Claim7 := { stood := { row := hexaDigitsRow, standIns := [], harness := (true, "85a48fba949c2f2198d6e7b977c4a467a0174ca3e84f84fd1343aaec08db1e10"), looks := false }, kinds := [], alts := [], laidByText := true, laidKinds := [.data, .pinned], laidTests := true, laidLooks := .later }
def HexaDigitsCardSaid : Prop := Claim7.holds Tryd.pinned (.plain (OpenSpec.ofChange hexaDigitsSpec)) hexaDigitsCard

/-- THE TIED CARD OF 'sheavelaw02.HexaEscapes'. -/
def hexaEscapesCard : Claim7 := { stood := { row := hexaEscapesRow, standIns := [], harness := (true, "85a48fba949c2f2198d6e7b977c4a467a0174ca3e84f84fd1343aaec08db1e10"), looks := false }, kinds := [], alts := [], laidByText := true, laidKinds := [.data, .pinned], laidTests := true, laidLooks := .later }
def HexaEscapesCardSaid : Prop := Claim7.holds Tryd.pinned (.plain (OpenSpec.ofChange hexaEscapesSpec)) hexaEscapesCard

/-- THE TIED CARD OF 'sheavelaw02.HexaReads'. -/
def hexaReadsCard : Claim7 := { stood := { row := hexaReadsRow, standIns := [], harness := (true, "85a48fba949c2f2198d6e7b977c4a467a0174ca3e84f84fd1343aaec08db1e10"), looks := false }, kinds := [], alts := [], laidByText := true, laidKinds := [.data, .pinned], laidTests := true, laidLooks := .later }
def HexaReadsCardSaid : Prop := Claim7.holds Tryd.pinned (.plain (OpenSpec.ofChange hexaReadsSpec)) hexaReadsCard

/-- THE TIED CARD OF 'sheavelaw02.HexaBack'. -/
def hexaBackCard : Claim7 := { stood := { row := hexaBackRow, standIns := [], harness := (true, "85a48fba949c2f2198d6e7b977c4a467a0174ca3e84f84fd1343aaec08db1e10"), looks := false }, kinds := [], alts := [], laidByText := true, laidKinds := [.data, .pinned], laidTests := true, laidLooks := .later }
def HexaBackCardSaid : Prop := Claim7.holds Tryd.pinned (.plain (OpenSpec.ofChange hexaBackSpec)) hexaBackCard

/-- THE SECOND FORM's CARD OF 'sheavelaw02.HexaDigits'. -/
def hexaDigitsUptoCard : Claim7 := { stood := { row := hexaDigitsUptoRow, standIns := [], harness := (true, "85a48fba949c2f2198d6e7b977c4a467a0174ca3e84f84fd1343aaec08db1e10"), looks := false }, kinds := [], alts := [], laidByText := true, laidKinds := [.data, .pinned], laidTests := true, laidLooks := .later }
def HexaDigitsUptoCardSaid : Prop := Claim7.holds Tryd.pinned (.plain (OpenSpec.upto hexaDigitsSpec)) hexaDigitsUptoCard

/-- THE SECOND FORM's CARD OF 'sheavelaw02.HexaEscapes'. -/
def hexaEscapesUptoCard : Claim7 := { stood := { row := hexaEscapesUptoRow, standIns := [], harness := (true, "85a48fba949c2f2198d6e7b977c4a467a0174ca3e84f84fd1343aaec08db1e10"), looks := false }, kinds := [], alts := [], laidByText := true, laidKinds := [.data, .pinned], laidTests := true, laidLooks := .later }
def HexaEscapesUptoCardSaid : Prop := Claim7.holds Tryd.pinned (.plain (OpenSpec.upto hexaEscapesSpec)) hexaEscapesUptoCard

/-- THE SECOND FORM's CARD OF 'sheavelaw02.HexaReads'. -/
def hexaReadsUptoCard : Claim7 := { stood := { row := hexaReadsUptoRow, standIns := [], harness := (true, "85a48fba949c2f2198d6e7b977c4a467a0174ca3e84f84fd1343aaec08db1e10"), looks := false }, kinds := [], alts := [], laidByText := true, laidKinds := [.data, .pinned], laidTests := true, laidLooks := .later }
def HexaReadsUptoCardSaid : Prop := Claim7.holds Tryd.pinned (.plain (OpenSpec.upto hexaReadsSpec)) hexaReadsUptoCard

/-- THE SECOND FORM's CARD OF 'sheavelaw02.HexaBack'. -/
def hexaBackUptoCard : Claim7 := { stood := { row := hexaBackUptoRow, standIns := [], harness := (true, "85a48fba949c2f2198d6e7b977c4a467a0174ca3e84f84fd1343aaec08db1e10"), looks := false }, kinds := [], alts := [], laidByText := true, laidKinds := [.data, .pinned], laidTests := true, laidLooks := .later }
def HexaBackUptoCardSaid : Prop := Claim7.holds Tryd.pinned (.plain (OpenSpec.upto hexaBackSpec)) hexaBackUptoCard
end Rows
end Go.Proofs.YtmbakokcfihafaaDoor
