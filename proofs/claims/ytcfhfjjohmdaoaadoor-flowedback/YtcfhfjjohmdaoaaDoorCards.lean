/-
  DERIVED. GIVEN WITH THE SEED: THE CARDS: each row of YtcfhfjjohmdaoaaDoorRows.lean that lists a variable, with what it lists TIED to the program's text (the seventh form; the later family's looks); each row that meets fmt, with fmt's text TOLD by the authors' own Lean function (tested against real Go, not proved from fmt's source: count such statements apart). THE CARD IS WHAT COUNTS. Prove the row's statement (the work); the ties are given (YtcfhfjjohmdaoaaDoorTie.lean); close each card by the builder's one call (the guide's Derived/Test/ToyasCard.lean, 'card_holds'). Laid BY PROGRAM, IN A SANDBOX (cutbox-door.mjs). By AI agents, Wed Nov 11 2026. No macro, syntax, notation, axiom, sorry.
-/
import Derived.Test.YtcfhfjjohmdaoaaDoorRows
import GoSem.ClaimSeven
namespace Go.Proofs.YtcfhfjjohmdaoaaDoor
namespace Rows

/-- THE TIED CARD OF 'sheavelaw27.FoldUnfolds'. -/
def foldUnfoldsCard : Claim7 := { stood := { row := foldUnfoldsRow, standIns := [], harness := (true, "994c77b2c6b776058255b296ba071f816e2e2dbcf395b01695a3f583dca5c8c3"), looks := false }, kinds := [], alts := [], laidByText := true, laidKinds := [.data, .pinned], laidTests := true, laidLooks := .later }
def FoldUnfoldsCardSaid : Prop := Claim7.holds Tryd.pinned (.plain (OpenSpec.ofChange foldUnfoldsSpec)) foldUnfoldsCard

/-- THE TIED CARD OF 'sheavelaw27.FoldBack'. -/
def foldBackCard : Claim7 := { stood := { row := foldBackRow, standIns := [], harness := (true, "994c77b2c6b776058255b296ba071f816e2e2dbcf395b01695a3f583dca5c8c3"), looks := false }, kinds := [], alts := [], laidByText := true, laidKinds := [.data, .pinned], laidTests := true, laidLooks := .later }
def FoldBackCardSaid : Prop := Claim7.holds Tryd.pinned (.plain (OpenSpec.ofChange foldBackSpec)) foldBackCard

/-- THE TIED CARD OF 'sheavelaw27.FoldFolds'. -/
def foldFoldsCard : Claim7 := { stood := { row := foldFoldsRow, standIns := [], harness := (true, "994c77b2c6b776058255b296ba071f816e2e2dbcf395b01695a3f583dca5c8c3"), looks := false }, kinds := [], alts := [], laidByText := true, laidKinds := [.data, .pinned], laidTests := true, laidLooks := .later }
def FoldFoldsCardSaid : Prop := Claim7.holds Tryd.pinned (.plain (OpenSpec.ofChange foldFoldsSpec)) foldFoldsCard

/-- THE TIED CARD OF 'sheavelaw48.FieldReads'. -/
def fieldReadsCard : Claim7 := { stood := { row := fieldReadsRow, standIns := [], harness := (true, "994c77b2c6b776058255b296ba071f816e2e2dbcf395b01695a3f583dca5c8c3"), looks := false }, kinds := [], alts := [], laidByText := true, laidKinds := [.data, .pinned], laidTests := true, laidLooks := .later }
def FieldReadsCardSaid : Prop := Claim7.holds Tryd.pinned (.plain (OpenSpec.ofChange fieldReadsSpec)) fieldReadsCard

/-- THE TIED CARD OF 'sheavelaw48.FieldOne'. -/
def fieldOneCard : Claim7 := { stood := { row := fieldOneRow, standIns := [], harness := (true, "994c77b2c6b776058255b296ba071f816e2e2dbcf395b01695a3f583dca5c8c3"), looks := false }, kinds := [], alts := [], laidByText := true, laidKinds := [.data, .pinned], laidTests := true, laidLooks := .later }
def FieldOneCardSaid : Prop := Claim7.holds Tryd.pinned (.plain (OpenSpec.ofChange fieldOneSpec)) fieldOneCard

/-- THE TIED CARD OF 'sheavelaw48.FieldBack'. -/
def fieldBackCard : Claim7 := { stood := { row := fieldBackRow, standIns := [], harness := (true, "994c77b2c6b776058255b296ba071f816e2e2dbcf395b01695a3f583dca5c8c3"), looks := false }, kinds := [], alts := [], laidByText := true, laidKinds := [.data, .pinned], laidTests := true, laidLooks := .later }
def FieldBackCardSaid : Prop := Claim7.holds Tryd.pinned (.plain (OpenSpec.ofChange fieldBackSpec)) fieldBackCard

/-- THE TIED CARD OF 'sheavelaw42.FlowedReads'. -/
def flowedReadsCard : Claim7 := { stood := { row := flowedReadsRow, standIns := [], harness := (true, "994c77b2c6b776058255b296ba071f816e2e2dbcf395b01695a3f583dca5c8c3"), looks := false }, kinds := [], alts := [], laidByText := true, laidKinds := [.data, .pinned], laidTests := true, laidLooks := .later }
def FlowedReadsCardSaid : Prop := Claim7.holds Tryd.pinned (.plain (OpenSpec.ofChange flowedReadsSpec)) flowedReadsCard

/-- THE TIED CARD OF 'sheavelaw42.FlowedLays'. -/
def flowedLaysCard : Claim7 := { stood := { row := flowedLaysRow, standIns := [], harness := (true, "994c77b2c6b776058255b296ba071f816e2e2dbcf395b01695a3f583dca5c8c3"), looks := false }, kinds := [], alts := [], laidByText := true, laidKinds := [.data, .pinned], laidTests := true, laidLooks := .later }
def FlowedLaysCardSaid : Prop := Claim7.holds Tryd.pinned (.plain (OpenSpec.ofChange flowedLaysSpec)) flowedLaysCard

/-- THE TIED CARD OF 'sheavelaw42.FlowedLines'. -/
def flowedLinesCard : Claim7 := { stood := { row := flowedLinesRow, standIns := [], harness := (true, "994c77b2c6b776058255b296ba071f816e2e2dbcf395b01695a3f583dca5c8c3"), looks := false }, kinds := [], alts := [], laidByText := true, laidKinds := [.data, .pinned], laidTests := true, laidLooks := .later }
def FlowedLinesCardSaid : Prop := Claim7.holds Tryd.pinned (.plain (OpenSpec.ofChange flowedLinesSpec)) flowedLinesCard

/-- THE TIED CARD OF 'sheavelaw42.FlowedBack'. -/
def flowedBackCard : Claim7 := { stood := { row := flowedBackRow, standIns := [], harness := (true, "994c77b2c6b776058255b296ba071f816e2e2dbcf395b01695a3f583dca5c8c3"), looks := false }, kinds := [], alts := [], laidByText := true, laidKinds := [.data, .pinned], laidTests := true, laidLooks := .later }
def FlowedBackCardSaid : Prop := Claim7.holds Tryd.pinned (.plain (OpenSpec.ofChange flowedBackSpec)) flowedBackCard

/-- THE SECOND FORM's CARD OF 'sheavelaw27.FoldUnfolds'. -/
def foldUnfoldsUptoCard : Claim7 := { stood := { row := foldUnfoldsUptoRow, standIns := [], harness := (true, "994c77b2c6b776058255b296ba071f816e2e2dbcf395b01695a3f583dca5c8c3"), looks := false }, kinds := [], alts := [], laidByText := true, laidKinds := [.data, .pinned], laidTests := true, laidLooks := .later }
def FoldUnfoldsUptoCardSaid : Prop := Claim7.holds Tryd.pinned (.plain (OpenSpec.upto foldUnfoldsSpec)) foldUnfoldsUptoCard

/-- THE SECOND FORM's CARD OF 'sheavelaw27.FoldBack'. -/
def foldBackUptoCard : Claim7 := { stood := { row := foldBackUptoRow, standIns := [], harness := (true, "994c77b2c6b776058255b296ba071f816e2e2dbcf395b01695a3f583dca5c8c3"), looks := false }, kinds := [], alts := [], laidByText := true, laidKinds := [.data, .pinned], laidTests := true, laidLooks := .later }
def FoldBackUptoCardSaid : Prop := Claim7.holds Tryd.pinned (.plain (OpenSpec.upto foldBackSpec)) foldBackUptoCard

/-- THE SECOND FORM's CARD OF 'sheavelaw27.FoldFolds'. -/
def foldFoldsUptoCard : Claim7 := { stood := { row := foldFoldsUptoRow, standIns := [], harness := (true, "994c77b2c6b776058255b296ba071f816e2e2dbcf395b01695a3f583dca5c8c3"), looks := false }, kinds := [], alts := [], laidByText := true, laidKinds := [.data, .pinned], laidTests := true, laidLooks := .later }
def FoldFoldsUptoCardSaid : Prop := Claim7.holds Tryd.pinned (.plain (OpenSpec.upto foldFoldsSpec)) foldFoldsUptoCard

/-- THE SECOND FORM's CARD OF 'sheavelaw48.FieldReads'. -/
def fieldReadsUptoCard : Claim7 := { stood := { row := fieldReadsUptoRow, standIns := [], harness := (true, "994c77b2c6b776058255b296ba071f816e2e2dbcf395b01695a3f583dca5c8c3"), looks := false }, kinds := [], alts := [], laidByText := true, laidKinds := [.data, .pinned], laidTests := true, laidLooks := .later }
def FieldReadsUptoCardSaid : Prop := Claim7.holds Tryd.pinned (.plain (OpenSpec.upto fieldReadsSpec)) fieldReadsUptoCard

/-- THE SECOND FORM's CARD OF 'sheavelaw48.FieldOne'. -/
def fieldOneUptoCard : Claim7 := { stood := { row := fieldOneUptoRow, standIns := [], harness := (true, "994c77b2c6b776058255b296ba071f816e2e2dbcf395b01695a3f583dca5c8c3"), looks := false }, kinds := [], alts := [], laidByText := true, laidKinds := [.data, .pinned], laidTests := true, laidLooks := .later }
def FieldOneUptoCardSaid : Prop := Claim7.holds Tryd.pinned (.plain (OpenSpec.upto fieldOneSpec)) fieldOneUptoCard

/-- THE SECOND FORM's CARD OF 'sheavelaw48.FieldBack'. -/
def fieldBackUptoCard : Claim7 := { stood := { row := fieldBackUptoRow, standIns := [], harness := (true, "994c77b2c6b776058255b296ba071f816e2e2dbcf395b01695a3f583dca5c8c3"), looks := false }, kinds := [], alts := [], laidByText := true, laidKinds := [.data, .pinned], laidTests := true, laidLooks := .later }
def FieldBackUptoCardSaid : Prop := Claim7.holds Tryd.pinned (.plain (OpenSpec.upto fieldBackSpec)) fieldBackUptoCard

/-- THE SECOND FORM's CARD OF 'sheavelaw42.FlowedReads'. -/
def flowedReadsUptoCard : Claim7 := { stood := { row := flowedReadsUptoRow, standIns := [], harness := (true, "994c77b2c6b776058255b296ba071f816e2e2dbcf395b01695a3f583dca5c8c3"), looks := false }, kinds := [], alts := [], laidByText := true, laidKinds := [.data, .pinned], laidTests := true, laidLooks := .later }
def FlowedReadsUptoCardSaid : Prop := Claim7.holds Tryd.pinned (.plain (OpenSpec.upto flowedReadsSpec)) flowedReadsUptoCard

/-- THE SECOND FORM's CARD OF 'sheavelaw42.FlowedLays'. -/
def flowedLaysUptoCard : Claim7 := { stood := { row := flowedLaysUptoRow, standIns := [], harness := (true, "994c77b2c6b776058255b296ba071f816e2e2dbcf395b01695a3f583dca5c8c3"), looks := false }, kinds := [], alts := [], laidByText := true, laidKinds := [.data, .pinned], laidTests := true, laidLooks := .later }
def FlowedLaysUptoCardSaid : Prop := Claim7.holds Tryd.pinned (.plain (OpenSpec.upto flowedLaysSpec)) flowedLaysUptoCard

/-- THE SECOND FORM's CARD OF 'sheavelaw42.FlowedLines'. -/
def flowedLinesUptoCard : Claim7 := { stood := { row := flowedLinesUptoRow, standIns := [], harness := (true, "994c77b2c6b776058255b296ba071f816e2e2dbcf395b01695a3f583dca5c8c3"), looks := false }, kinds := [], alts := [], laidByText := true, laidKinds := [.data, .pinned], laidTests := true, laidLooks := .later }
def FlowedLinesUptoCardSaid : Prop := Claim7.holds Tryd.pinned (.plain (OpenSpec.upto flowedLinesSpec)) flowedLinesUptoCard

/-- THE SECOND FORM's CARD OF 'sheavelaw42.FlowedBack'. -/
def flowedBackUptoCard : Claim7 := { stood := { row := flowedBackUptoRow, standIns := [], harness := (true, "994c77b2c6b776058255b296ba071f816e2e2dbcf395b01695a3f583dca5c8c3"), looks := false }, kinds := [], alts := [], laidByText := true, laidKinds := [.data, .pinned], laidTests := true, laidLooks := .later }
def FlowedBackUptoCardSaid : Prop := Claim7.holds Tryd.pinned (.plain (OpenSpec.upto flowedBackSpec)) flowedBackUptoCard
end Rows
end Go.Proofs.YtcfhfjjohmdaoaaDoor
