/-
  DERIVED. GIVEN WITH THE SEED: THE CARDS: each row of YtejhjmmdachijaaDoorRows.lean that lists a variable, with what it lists TIED to the program's text (the seventh form; the later family's looks); each row that meets fmt, with fmt's text TOLD by the authors' own Lean function (tested against real Go, not proved from fmt's source: count such statements apart). THE CARD IS WHAT COUNTS. Prove the row's statement (the work); the ties are given (YtejhjmmdachijaaDoorTie.lean); close each card by the builder's one call (the guide's Derived/Test/ToyasCard.lean, 'card_holds'). Laid BY PROGRAM, IN A SANDBOX (cutbox-door.mjs). By AI agents, Wed Nov 11 2026. No macro, syntax, notation, axiom, sorry.
-/
import Derived.Test.YtejhjmmdachijaaDoorRows
import GoSem.ClaimSeven
namespace Go.Proofs.YtejhjmmdachijaaDoor
namespace Rows

/-- THE TIED CARD OF 'sheavelaw18.QpageChecks'. -/
def qpageChecksCard : Claim7 := { stood := { row := qpageChecksRow, standIns := [], harness := (true, "75a33f011f2217f75be7d686edfcb4a5f4fd76a4bd1ddacc35e1e93bece0cf86"), looks := false }, kinds := [], alts := [], laidByText := true, laidKinds := [.data, .pinned], laidTests := true, laidLooks := .later }
def QpageChecksCardSaid : Prop := Claim7.holds Tryd.pinned (.plain (OpenSpec.ofChange qpageChecksSpec)) qpageChecksCard

/-- THE TIED CARD OF 'sheavelaw18.QpageRight'. -/
def qpageRightCard : Claim7 := { stood := { row := qpageRightRow, standIns := [], harness := (true, "75a33f011f2217f75be7d686edfcb4a5f4fd76a4bd1ddacc35e1e93bece0cf86"), looks := false }, kinds := [], alts := [], laidByText := true, laidKinds := [.data, .pinned], laidTests := true, laidLooks := .later }
def QpageRightCardSaid : Prop := Claim7.holds Tryd.pinned (.plain (OpenSpec.ofChange qpageRightSpec)) qpageRightCard

/-- THE TIED CARD OF 'sheavelaw18.QpageBreaks'. -/
def qpageBreaksCard : Claim7 := { stood := { row := qpageBreaksRow, standIns := [], harness := (true, "75a33f011f2217f75be7d686edfcb4a5f4fd76a4bd1ddacc35e1e93bece0cf86"), looks := false }, kinds := [], alts := [], laidByText := true, laidKinds := [.data, .pinned], laidTests := true, laidLooks := .later }
def QpageBreaksCardSaid : Prop := Claim7.holds Tryd.pinned (.plain (OpenSpec.ofChange qpageBreaksSpec)) qpageBreaksCard

/-- THE TIED CARD OF 'sheavelaw18.QpageLays'. -/
def qpageLaysCard : Claim7 := { stood := { row := qpageLaysRow, standIns := [], harness := (true, "75a33f011f2217f75be7d686edfcb4a5f4fd76a4bd1ddacc35e1e93bece0cf86"), looks := false }, kinds := [], alts := [], laidByText := true, laidKinds := [.data, .pinned], laidTests := true, laidLooks := .later }
def QpageLaysCardSaid : Prop := Claim7.holds Tryd.pinned (.plain (OpenSpec.ofChange qpageLaysSpec)) qpageLaysCard

/-- THE TIED CARD OF 'sheavelaw19.QreadLines'. -/
def qreadLinesCard : Claim7 := { stood := { row := qreadLinesRow, standIns := [], harness := (true, "75a33f011f2217f75be7d686edfcb4a5f4fd76a4bd1ddacc35e1e93bece0cf86"), looks := false }, kinds := [], alts := [], laidByText := true, laidKinds := [.data, .pinned], laidTests := true, laidLooks := .later }
def QreadLinesCardSaid : Prop := Claim7.holds Tryd.pinned (.plain (OpenSpec.ofChange qreadLinesSpec)) qreadLinesCard

/-- THE TIED CARD OF 'sheavelaw19.QreadShort'. -/
def qreadShortCard : Claim7 := { stood := { row := qreadShortRow, standIns := [], harness := (true, "75a33f011f2217f75be7d686edfcb4a5f4fd76a4bd1ddacc35e1e93bece0cf86"), looks := false }, kinds := [], alts := [], laidByText := true, laidKinds := [.data, .pinned], laidTests := true, laidLooks := .later }
def QreadShortCardSaid : Prop := Claim7.holds Tryd.pinned (.plain (OpenSpec.ofChange qreadShortSpec)) qreadShortCard

/-- THE TIED CARD OF 'sheavelaw19.QreadReads'. -/
def qreadReadsCard : Claim7 := { stood := { row := qreadReadsRow, standIns := [], harness := (true, "75a33f011f2217f75be7d686edfcb4a5f4fd76a4bd1ddacc35e1e93bece0cf86"), looks := false }, kinds := [], alts := [], laidByText := true, laidKinds := [.data, .pinned], laidTests := true, laidLooks := .later }
def QreadReadsCardSaid : Prop := Claim7.holds Tryd.pinned (.plain (OpenSpec.ofChange qreadReadsSpec)) qreadReadsCard

/-- THE TIED CARD OF 'sheavelaw19.QreadBack'. -/
def qreadBackCard : Claim7 := { stood := { row := qreadBackRow, standIns := [], harness := (true, "75a33f011f2217f75be7d686edfcb4a5f4fd76a4bd1ddacc35e1e93bece0cf86"), looks := false }, kinds := [], alts := [], laidByText := true, laidKinds := [.data, .pinned], laidTests := true, laidLooks := .later }
def QreadBackCardSaid : Prop := Claim7.holds Tryd.pinned (.plain (OpenSpec.ofChange qreadBackSpec)) qreadBackCard

/-- THE SECOND FORM's CARD OF 'sheavelaw18.QpageChecks'. -/
def qpageChecksUptoCard : Claim7 := { stood := { row := qpageChecksUptoRow, standIns := [], harness := (true, "75a33f011f2217f75be7d686edfcb4a5f4fd76a4bd1ddacc35e1e93bece0cf86"), looks := false }, kinds := [], alts := [], laidByText := true, laidKinds := [.data, .pinned], laidTests := true, laidLooks := .later }
def QpageChecksUptoCardSaid : Prop := Claim7.holds Tryd.pinned (.plain (OpenSpec.upto qpageChecksSpec)) qpageChecksUptoCard

/-- THE SECOND FORM's CARD OF 'sheavelaw18.QpageRight'. -/
def qpageRightUptoCard : Claim7 := { stood := { row := qpageRightUptoRow, standIns := [], harness := (true, "75a33f011f2217f75be7d686edfcb4a5f4fd76a4bd1ddacc35e1e93bece0cf86"), looks := false }, kinds := [], alts := [], laidByText := true, laidKinds := [.data, .pinned], laidTests := true, laidLooks := .later }
def QpageRightUptoCardSaid : Prop := Claim7.holds Tryd.pinned (.plain (OpenSpec.upto qpageRightSpec)) qpageRightUptoCard

/-- THE SECOND FORM's CARD OF 'sheavelaw18.QpageBreaks'. -/
def qpageBreaksUptoCard : Claim7 := { stood := { row := qpageBreaksUptoRow, standIns := [], harness := (true, "75a33f011f2217f75be7d686edfcb4a5f4fd76a4bd1ddacc35e1e93bece0cf86"), looks := false }, kinds := [], alts := [], laidByText := true, laidKinds := [.data, .pinned], laidTests := true, laidLooks := .later }
def QpageBreaksUptoCardSaid : Prop := Claim7.holds Tryd.pinned (.plain (OpenSpec.upto qpageBreaksSpec)) qpageBreaksUptoCard

/-- THE SECOND FORM's CARD OF 'sheavelaw18.QpageLays'. -/
def qpageLaysUptoCard : Claim7 := { stood := { row := qpageLaysUptoRow, standIns := [], harness := (true, "75a33f011f2217f75be7d686edfcb4a5f4fd76a4bd1ddacc35e1e93bece0cf86"), looks := false }, kinds := [], alts := [], laidByText := true, laidKinds := [.data, .pinned], laidTests := true, laidLooks := .later }
def QpageLaysUptoCardSaid : Prop := Claim7.holds Tryd.pinned (.plain (OpenSpec.upto qpageLaysSpec)) qpageLaysUptoCard

/-- THE SECOND FORM's CARD OF 'sheavelaw19.QreadLines'. -/
def qreadLinesUptoCard : Claim7 := { stood := { row := qreadLinesUptoRow, standIns := [], harness := (true, "75a33f011f2217f75be7d686edfcb4a5f4fd76a4bd1ddacc35e1e93bece0cf86"), looks := false }, kinds := [], alts := [], laidByText := true, laidKinds := [.data, .pinned], laidTests := true, laidLooks := .later }
def QreadLinesUptoCardSaid : Prop := Claim7.holds Tryd.pinned (.plain (OpenSpec.upto qreadLinesSpec)) qreadLinesUptoCard

/-- THE SECOND FORM's CARD OF 'sheavelaw19.QreadShort'. -/
def qreadShortUptoCard : Claim7 := { stood := { row := qreadShortUptoRow, standIns := [], harness := (true, "75a33f011f2217f75be7d686edfcb4a5f4fd76a4bd1ddacc35e1e93bece0cf86"), looks := false }, kinds := [], alts := [], laidByText := true, laidKinds := [.data, .pinned], laidTests := true, laidLooks := .later }
def QreadShortUptoCardSaid : Prop := Claim7.holds Tryd.pinned (.plain (OpenSpec.upto qreadShortSpec)) qreadShortUptoCard

/-- THE SECOND FORM's CARD OF 'sheavelaw19.QreadReads'. -/
def qreadReadsUptoCard : Claim7 := { stood := { row := qreadReadsUptoRow, standIns := [], harness := (true, "75a33f011f2217f75be7d686edfcb4a5f4fd76a4bd1ddacc35e1e93bece0cf86"), looks := false }, kinds := [], alts := [], laidByText := true, laidKinds := [.data, .pinned], laidTests := true, laidLooks := .later }
def QreadReadsUptoCardSaid : Prop := Claim7.holds Tryd.pinned (.plain (OpenSpec.upto qreadReadsSpec)) qreadReadsUptoCard

/-- THE SECOND FORM's CARD OF 'sheavelaw19.QreadBack'. -/
def qreadBackUptoCard : Claim7 := { stood := { row := qreadBackUptoRow, standIns := [], harness := (true, "75a33f011f2217f75be7d686edfcb4a5f4fd76a4bd1ddacc35e1e93bece0cf86"), looks := false }, kinds := [], alts := [], laidByText := true, laidKinds := [.data, .pinned], laidTests := true, laidLooks := .later }
def QreadBackUptoCardSaid : Prop := Claim7.holds Tryd.pinned (.plain (OpenSpec.upto qreadBackSpec)) qreadBackUptoCard
end Rows
end Go.Proofs.YtejhjmmdachijaaDoor
