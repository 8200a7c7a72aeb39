/-
  DERIVED. GIVEN WITH THE SEED: THE CARDS: each row of YtmdadpepccbpcaaGreatDoorRows.lean that lists a variable, with what it lists TIED to the program's text (the seventh form; the later family's looks); each row that meets fmt, with fmt's text TOLD by the authors' own Lean function (tested against real Go, not proved from fmt's source: count such statements apart). THE CARD IS WHAT COUNTS. Prove the row's statement (the work); the ties are given (YtmdadpepccbpcaaGreatDoorTie.lean); close each card by the builder's one call (the guide's Derived/Test/ToyasCard.lean, 'card_holds'). Laid BY PROGRAM, IN A SANDBOX (cutbox-door.mjs). By AI agents, Wed Nov 11 2026. No macro, syntax, notation, axiom, sorry.
-/
import Derived.Test.YtmdadpepccbpcaaGreatDoorRows
import GoSem.ClaimSeven
namespace Go.Proofs.YtmdadpepccbpcaaGreatDoor
namespace Rows

/-- THE TIED CARD OF 'sheavelaw38.BodyAuto'. -/
def bodyAutoCard : Claim7 := { stood := { row := bodyAutoRow, standIns := [], harness := (true, "7f757d7904b6faf829ac0fc9740ded338814c36d02c8be6a248f0d3dd5679d34"), looks := false }, kinds := [], alts := [], laidByText := true, laidKinds := [.data, .data, .data, .pinned], laidTests := true, laidLooks := .later }
def BodyAutoCardSaid : Prop := Claim7.holds Tryz.pinned (.plain (OpenSpec.ofChange bodyAutoSpec)) bodyAutoCard

/-- THE TIED CARD OF 'sheavelaw38.BodyLays'. -/
def bodyLaysCard : Claim7 := { stood := { row := bodyLaysRow, standIns := [], harness := (true, "7f757d7904b6faf829ac0fc9740ded338814c36d02c8be6a248f0d3dd5679d34"), looks := false }, kinds := [], alts := [], laidByText := true, laidKinds := [.data, .data, .data, .pinned], laidTests := true, laidLooks := .later }
def BodyLaysCardSaid : Prop := Claim7.holds Tryz.pinned (.plain (OpenSpec.ofChange bodyLaysSpec)) bodyLaysCard

/-- THE TIED CARD OF 'sheavelaw38.BodyBack'. -/
def bodyBackCard : Claim7 := { stood := { row := bodyBackRow, standIns := [], harness := (true, "7f757d7904b6faf829ac0fc9740ded338814c36d02c8be6a248f0d3dd5679d34"), looks := false }, kinds := [], alts := [], laidByText := true, laidKinds := [.data, .data, .data, .pinned], laidTests := true, laidLooks := .later }
def BodyBackCardSaid : Prop := Claim7.holds Tryz.pinned (.plain (OpenSpec.ofChange bodyBackSpec)) bodyBackCard

/-- THE TIED CARD OF 'sheavelaw38.BodyReads'. -/
def bodyReadsCard : Claim7 := { stood := { row := bodyReadsRow, standIns := [], harness := (true, "7f757d7904b6faf829ac0fc9740ded338814c36d02c8be6a248f0d3dd5679d34"), looks := false }, kinds := [], alts := [], laidByText := true, laidKinds := [.data, .data, .data, .pinned], laidTests := true, laidLooks := .later }
def BodyReadsCardSaid : Prop := Claim7.holds Tryz.pinned (.plain (OpenSpec.ofChange bodyReadsSpec)) bodyReadsCard

/-- THE SECOND FORM's CARD OF 'sheavelaw38.BodyAuto'. -/
def bodyAutoUptoCard : Claim7 := { stood := { row := bodyAutoUptoRow, standIns := [], harness := (true, "7f757d7904b6faf829ac0fc9740ded338814c36d02c8be6a248f0d3dd5679d34"), looks := false }, kinds := [], alts := [], laidByText := true, laidKinds := [.data, .data, .data, .pinned], laidTests := true, laidLooks := .later }
def BodyAutoUptoCardSaid : Prop := Claim7.holds Tryz.pinned (.plain (OpenSpec.upto bodyAutoSpec)) bodyAutoUptoCard

/-- THE SECOND FORM's CARD OF 'sheavelaw38.BodyLays'. -/
def bodyLaysUptoCard : Claim7 := { stood := { row := bodyLaysUptoRow, standIns := [], harness := (true, "7f757d7904b6faf829ac0fc9740ded338814c36d02c8be6a248f0d3dd5679d34"), looks := false }, kinds := [], alts := [], laidByText := true, laidKinds := [.data, .data, .data, .pinned], laidTests := true, laidLooks := .later }
def BodyLaysUptoCardSaid : Prop := Claim7.holds Tryz.pinned (.plain (OpenSpec.upto bodyLaysSpec)) bodyLaysUptoCard

/-- THE SECOND FORM's CARD OF 'sheavelaw38.BodyBack'. -/
def bodyBackUptoCard : Claim7 := { stood := { row := bodyBackUptoRow, standIns := [], harness := (true, "7f757d7904b6faf829ac0fc9740ded338814c36d02c8be6a248f0d3dd5679d34"), looks := false }, kinds := [], alts := [], laidByText := true, laidKinds := [.data, .data, .data, .pinned], laidTests := true, laidLooks := .later }
def BodyBackUptoCardSaid : Prop := Claim7.holds Tryz.pinned (.plain (OpenSpec.upto bodyBackSpec)) bodyBackUptoCard

/-- THE SECOND FORM's CARD OF 'sheavelaw38.BodyReads'. -/
def bodyReadsUptoCard : Claim7 := { stood := { row := bodyReadsUptoRow, standIns := [], harness := (true, "7f757d7904b6faf829ac0fc9740ded338814c36d02c8be6a248f0d3dd5679d34"), looks := false }, kinds := [], alts := [], laidByText := true, laidKinds := [.data, .data, .data, .pinned], laidTests := true, laidLooks := .later }
def BodyReadsUptoCardSaid : Prop := Claim7.holds Tryz.pinned (.plain (OpenSpec.upto bodyReadsSpec)) bodyReadsUptoCard
end Rows
end Go.Proofs.YtmdadpepccbpcaaGreatDoor
