/-
  DERIVED. GIVEN WITH THE SEED: THE CARDS: each row of YtopepdfipgfakaaGreatDoorRows.lean that lists a variable, with what it lists TIED to the program's text (the seventh form; the later family's looks); each row that meets fmt, with fmt's text TOLD by the authors' own Lean function (tested against real Go, not proved from fmt's source: count such statements apart). THE CARD IS WHAT COUNTS. Prove the row's statement (the work); the ties are given (YtopepdfipgfakaaGreatDoorTie.lean); close each card by the builder's one call (the guide's Derived/Test/ToyasCard.lean, 'card_holds'). Laid BY PROGRAM, IN A SANDBOX (cutbox-door.mjs). By AI agents, Wed Nov 11 2026. No macro, syntax, notation, axiom, sorry.
-/
import Derived.Test.YtopepdfipgfakaaGreatDoorRows
import GoSem.ClaimSeven
namespace Go.Proofs.YtopepdfipgfakaaGreatDoor
namespace Rows

/-- THE TIED CARD OF 'sheavelaw29.EwformParses'. -/
def ewformParsesCard : Claim7 := { stood := { row := ewformParsesRow, standIns := [], harness := (true, "4ce2a6a69dfd48f5f8aba0d6ccac7fb41e3aa7768f836e980c681f07870540ec"), looks := true }, kinds := [], alts := [], laidByText := true, laidKinds := [.data, .pinned], laidTests := true, laidLooks := .later }
def EwformParsesCardSaid : Prop := Claim7.holds Tryz.pinned (.plain (OpenSpec.ofChange ewformParsesSpec)) ewformParsesCard

/-- THE TIED CARD OF 'sheavelaw29.EwformLays'. -/
def ewformLaysCard : Claim7 := { stood := { row := ewformLaysRow, standIns := [], harness := (true, "4ce2a6a69dfd48f5f8aba0d6ccac7fb41e3aa7768f836e980c681f07870540ec"), looks := true }, kinds := [], alts := [], laidByText := true, laidKinds := [.data, .pinned], laidTests := true, laidLooks := .later }
def EwformLaysCardSaid : Prop := Claim7.holds Tryz.pinned (.plain (OpenSpec.ofChange ewformLaysSpec)) ewformLaysCard

/-- THE TIED CARD OF 'sheavelaw29.EwformReads'. -/
def ewformReadsCard : Claim7 := { stood := { row := ewformReadsRow, standIns := [], harness := (true, "4ce2a6a69dfd48f5f8aba0d6ccac7fb41e3aa7768f836e980c681f07870540ec"), looks := true }, kinds := [], alts := [], laidByText := true, laidKinds := [.data, .pinned], laidTests := true, laidLooks := .later }
def EwformReadsCardSaid : Prop := Claim7.holds Tryz.pinned (.plain (OpenSpec.ofChange ewformReadsSpec)) ewformReadsCard

/-- THE TIED CARD OF 'sheavelaw29.EwformBack'. -/
def ewformBackCard : Claim7 := { stood := { row := ewformBackRow, standIns := [], harness := (true, "4ce2a6a69dfd48f5f8aba0d6ccac7fb41e3aa7768f836e980c681f07870540ec"), looks := true }, kinds := [], alts := [], laidByText := true, laidKinds := [.data, .pinned], laidTests := true, laidLooks := .later }
def EwformBackCardSaid : Prop := Claim7.holds Tryz.pinned (.plain (OpenSpec.ofChange ewformBackSpec)) ewformBackCard

/-- THE TIED CARD OF 'sheavelaw31.EwcutCuts'. -/
def ewcutCutsCard : Claim7 := { stood := { row := ewcutCutsRow, standIns := [], harness := (true, "4ce2a6a69dfd48f5f8aba0d6ccac7fb41e3aa7768f836e980c681f07870540ec"), looks := true }, kinds := [], alts := [], laidByText := true, laidKinds := [.data, .data], laidTests := true, laidLooks := .later }
def EwcutCutsCardSaid : Prop := Claim7.holds Tryz.pinned (.plain (OpenSpec.ofChange ewcutCutsSpec)) ewcutCutsCard

/-- THE TIED CARD OF 'sheavelaw31.EwcutWords'. -/
def ewcutWordsCard : Claim7 := { stood := { row := ewcutWordsRow, standIns := [], harness := (true, "4ce2a6a69dfd48f5f8aba0d6ccac7fb41e3aa7768f836e980c681f07870540ec"), looks := true }, kinds := [], alts := [], laidByText := true, laidKinds := [.data, .data], laidTests := true, laidLooks := .later }
def EwcutWordsCardSaid : Prop := Claim7.holds Tryz.pinned (.plain (OpenSpec.ofChange ewcutWordsSpec)) ewcutWordsCard

/-- THE TIED CARD OF 'sheavelaw31.EwcutRead'. -/
def ewcutReadCard : Claim7 := { stood := { row := ewcutReadRow, standIns := [], harness := (true, "4ce2a6a69dfd48f5f8aba0d6ccac7fb41e3aa7768f836e980c681f07870540ec"), looks := true }, kinds := [], alts := [], laidByText := true, laidKinds := [.data, .data], laidTests := true, laidLooks := .later }
def EwcutReadCardSaid : Prop := Claim7.holds Tryz.pinned (.plain (OpenSpec.ofChange ewcutReadSpec)) ewcutReadCard

/-- THE SECOND FORM's CARD OF 'sheavelaw29.EwformParses'. -/
def ewformParsesUptoCard : Claim7 := { stood := { row := ewformParsesUptoRow, standIns := [], harness := (true, "4ce2a6a69dfd48f5f8aba0d6ccac7fb41e3aa7768f836e980c681f07870540ec"), looks := true }, kinds := [], alts := [], laidByText := true, laidKinds := [.data, .pinned], laidTests := true, laidLooks := .later }
def EwformParsesUptoCardSaid : Prop := Claim7.holds Tryz.pinned (.plain (OpenSpec.upto ewformParsesSpec)) ewformParsesUptoCard

/-- THE SECOND FORM's CARD OF 'sheavelaw29.EwformLays'. -/
def ewformLaysUptoCard : Claim7 := { stood := { row := ewformLaysUptoRow, standIns := [], harness := (true, "4ce2a6a69dfd48f5f8aba0d6ccac7fb41e3aa7768f836e980c681f07870540ec"), looks := true }, kinds := [], alts := [], laidByText := true, laidKinds := [.data, .pinned], laidTests := true, laidLooks := .later }
def EwformLaysUptoCardSaid : Prop := Claim7.holds Tryz.pinned (.plain (OpenSpec.upto ewformLaysSpec)) ewformLaysUptoCard

/-- THE SECOND FORM's CARD OF 'sheavelaw29.EwformReads'. -/
def ewformReadsUptoCard : Claim7 := { stood := { row := ewformReadsUptoRow, standIns := [], harness := (true, "4ce2a6a69dfd48f5f8aba0d6ccac7fb41e3aa7768f836e980c681f07870540ec"), looks := true }, kinds := [], alts := [], laidByText := true, laidKinds := [.data, .pinned], laidTests := true, laidLooks := .later }
def EwformReadsUptoCardSaid : Prop := Claim7.holds Tryz.pinned (.plain (OpenSpec.upto ewformReadsSpec)) ewformReadsUptoCard

/-- THE SECOND FORM's CARD OF 'sheavelaw29.EwformBack'. -/
def ewformBackUptoCard : Claim7 := { stood := { row := ewformBackUptoRow, standIns := [], harness := (true, "4ce2a6a69dfd48f5f8aba0d6ccac7fb41e3aa7768f836e980c681f07870540ec"), looks := true }, kinds := [], alts := [], laidByText := true, laidKinds := [.data, .pinned], laidTests := true, laidLooks := .later }
def EwformBackUptoCardSaid : Prop := Claim7.holds Tryz.pinned (.plain (OpenSpec.upto ewformBackSpec)) ewformBackUptoCard

/-- THE SECOND FORM's CARD OF 'sheavelaw31.EwcutCuts'. -/
def ewcutCutsUptoCard : Claim7 := { stood := { row := ewcutCutsUptoRow, standIns := [], harness := (true, "4ce2a6a69dfd48f5f8aba0d6ccac7fb41e3aa7768f836e980c681f07870540ec"), looks := true }, kinds := [], alts := [], laidByText := true, laidKinds := [.data, .data], laidTests := true, laidLooks := .later }
def EwcutCutsUptoCardSaid : Prop := Claim7.holds Tryz.pinned (.plain (OpenSpec.upto ewcutCutsSpec)) ewcutCutsUptoCard

/-- THE SECOND FORM's CARD OF 'sheavelaw31.EwcutWords'. -/
def ewcutWordsUptoCard : Claim7 := { stood := { row := ewcutWordsUptoRow, standIns := [], harness := (true, "4ce2a6a69dfd48f5f8aba0d6ccac7fb41e3aa7768f836e980c681f07870540ec"), looks := true }, kinds := [], alts := [], laidByText := true, laidKinds := [.data, .data], laidTests := true, laidLooks := .later }
def EwcutWordsUptoCardSaid : Prop := Claim7.holds Tryz.pinned (.plain (OpenSpec.upto ewcutWordsSpec)) ewcutWordsUptoCard

/-- THE SECOND FORM's CARD OF 'sheavelaw31.EwcutRead'. -/
def ewcutReadUptoCard : Claim7 := { stood := { row := ewcutReadUptoRow, standIns := [], harness := (true, "4ce2a6a69dfd48f5f8aba0d6ccac7fb41e3aa7768f836e980c681f07870540ec"), looks := true }, kinds := [], alts := [], laidByText := true, laidKinds := [.data, .data], laidTests := true, laidLooks := .later }
def EwcutReadUptoCardSaid : Prop := Claim7.holds Tryz.pinned (.plain (OpenSpec.upto ewcutReadSpec)) ewcutReadUptoCard
end Rows
end Go.Proofs.YtopepdfipgfakaaGreatDoor
