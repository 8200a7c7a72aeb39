/-
  DERIVED. GIVEN WITH THE SEED: THE CARDS: each row of YtnfehbljinflbaaGreatDoorRRRRRows.lean that lists a variable, with what it lists TIED to the program's text (the seventh form; the later family's looks); each row that meets fmt, with fmt's text TOLD by the authors' own Lean function (tested against real Go, not proved from fmt's source: count such statements apart). THE CARD IS WHAT COUNTS. Prove the row's statement (the work); the ties are given (YtnfehbljinflbaaGreatDoorRRRRTie.lean); close each card by the builder's one call (the guide's Derived/Test/ToyasCard.lean, 'card_holds'). Laid BY PROGRAM, IN A SANDBOX (cutbox-door.mjs). By AI agents, Wed Nov 11 2026. No macro, syntax, notation, axiom, sorry.
-/
import Derived.Test.YtnfehbljinflbaaGreatDoorRRRRRows
import GoSem.ClaimSeven
namespace Go.Proofs.YtnfehbljinflbaaGreatDoorRRRR
namespace Rows

/-- THE TIED CARD OF 'sheavelaw33.EwreadReads'. -/
def ewreadReadsCard : Claim7 := { stood := { row := ewreadReadsRow, standIns := [], harness := (true, "c04e816a0a0bcd68523e57285549e770154cd87df3e84dd8d80c27ef8801e8b0"), looks := false }, kinds := [], alts := [], laidByText := true, laidKinds := [.data, .pinned], laidTests := true, laidLooks := .later }
def EwreadReadsCardSaid : Prop := Claim7.holds Tryz.pinned (.plain (OpenSpec.ofChange ewreadReadsSpec)) ewreadReadsCard

/-- THE TIED CARD OF 'sheavelaw33.EwreadParts'. -/
def ewreadPartsCard : Claim7 := { stood := { row := ewreadPartsRow, standIns := [], harness := (true, "c04e816a0a0bcd68523e57285549e770154cd87df3e84dd8d80c27ef8801e8b0"), looks := false }, kinds := [], alts := [], laidByText := true, laidKinds := [.data, .pinned], laidTests := true, laidLooks := .later }
def EwreadPartsCardSaid : Prop := Claim7.holds Tryz.pinned (.plain (OpenSpec.ofChange ewreadPartsSpec)) ewreadPartsCard

/-- THE TIED CARD OF 'sheavelaw33.EwreadShort'. -/
def ewreadShortCard : Claim7 := { stood := { row := ewreadShortRow, standIns := [], harness := (true, "c04e816a0a0bcd68523e57285549e770154cd87df3e84dd8d80c27ef8801e8b0"), looks := false }, kinds := [], alts := [], laidByText := true, laidKinds := [.data, .pinned], laidTests := true, laidLooks := .later }
def EwreadShortCardSaid : Prop := Claim7.holds Tryz.pinned (.plain (OpenSpec.ofChange ewreadShortSpec)) ewreadShortCard

/-- THE TIED CARD OF 'sheavelaw33.EwreadPlain'. -/
def ewreadPlainCard : Claim7 := { stood := { row := ewreadPlainRow, standIns := [], harness := (true, "c04e816a0a0bcd68523e57285549e770154cd87df3e84dd8d80c27ef8801e8b0"), looks := false }, kinds := [], alts := [], laidByText := true, laidKinds := [.data, .pinned], laidTests := true, laidLooks := .later }
def EwreadPlainCardSaid : Prop := Claim7.holds Tryz.pinned (.plain (OpenSpec.ofChange ewreadPlainSpec)) ewreadPlainCard

/-- THE SECOND FORM's CARD OF 'sheavelaw33.EwreadReads'. -/
def ewreadReadsUptoCard : Claim7 := { stood := { row := ewreadReadsUptoRow, standIns := [], harness := (true, "c04e816a0a0bcd68523e57285549e770154cd87df3e84dd8d80c27ef8801e8b0"), looks := false }, kinds := [], alts := [], laidByText := true, laidKinds := [.data, .pinned], laidTests := true, laidLooks := .later }
def EwreadReadsUptoCardSaid : Prop := Claim7.holds Tryz.pinned (.plain (OpenSpec.upto ewreadReadsSpec)) ewreadReadsUptoCard

/-- THE SECOND FORM's CARD OF 'sheavelaw33.EwreadParts'. -/
def ewreadPartsUptoCard : Claim7 := { stood := { row := ewreadPartsUptoRow, standIns := [], harness := (true, "c04e816a0a0bcd68523e57285549e770154cd87df3e84dd8d80c27ef8801e8b0"), looks := false }, kinds := [], alts := [], laidByText := true, laidKinds := [.data, .pinned], laidTests := true, laidLooks := .later }
def EwreadPartsUptoCardSaid : Prop := Claim7.holds Tryz.pinned (.plain (OpenSpec.upto ewreadPartsSpec)) ewreadPartsUptoCard

/-- THE SECOND FORM's CARD OF 'sheavelaw33.EwreadShort'. -/
def ewreadShortUptoCard : Claim7 := { stood := { row := ewreadShortUptoRow, standIns := [], harness := (true, "c04e816a0a0bcd68523e57285549e770154cd87df3e84dd8d80c27ef8801e8b0"), looks := false }, kinds := [], alts := [], laidByText := true, laidKinds := [.data, .pinned], laidTests := true, laidLooks := .later }
def EwreadShortUptoCardSaid : Prop := Claim7.holds Tryz.pinned (.plain (OpenSpec.upto ewreadShortSpec)) ewreadShortUptoCard

/-- THE SECOND FORM's CARD OF 'sheavelaw33.EwreadPlain'. -/
def ewreadPlainUptoCard : Claim7 := { stood := { row := ewreadPlainUptoRow, standIns := [], harness := (true, "c04e816a0a0bcd68523e57285549e770154cd87df3e84dd8d80c27ef8801e8b0"), looks := false }, kinds := [], alts := [], laidByText := true, laidKinds := [.data, .pinned], laidTests := true, laidLooks := .later }
def EwreadPlainUptoCardSaid : Prop := Claim7.holds Tryz.pinned (.plain (OpenSpec.upto ewreadPlainSpec)) ewreadPlainUptoCard
end Rows
end Go.Proofs.YtnfehbljinflbaaGreatDoorRRRR
