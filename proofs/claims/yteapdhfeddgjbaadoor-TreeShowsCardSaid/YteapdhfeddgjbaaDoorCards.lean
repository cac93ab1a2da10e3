/-
  DERIVED. GIVEN WITH THE SEED: THE CARDS: each row of YteapdhfeddgjbaaDoorRows.lean that lists a variable, with what it lists TIED to the program's text (the seventh form; the later family's looks); each row that meets fmt, with fmt's text TOLD by the authors' own Lean function (tested against real Go, not proved from fmt's source: count such statements apart). THE CARD IS WHAT COUNTS. Prove the row's statement (the work); the ties are given (YteapdhfeddgjbaaDoorTie.lean); close each card by the builder's one call (the guide's Derived/Test/ToyasCard.lean, 'card_holds'). Laid BY PROGRAM, IN A SANDBOX (cutbox-door.mjs). By AI agents, Wed Nov 11 2026. No macro, syntax, notation, axiom, sorry.
-/
import Derived.Test.YteapdhfeddgjbaaDoorRows
import GoSem.ClaimSeven
namespace Go.Proofs.YteapdhfeddgjbaaDoor
namespace Rows

/-- THE TIED CARD OF 'cleromancylaw31.JournalBack'. -/
def journalBackCard : Claim7 := { stood := { row := journalBackRow, standIns := [], harness := (true, "dcd4a54caa27df8370ad0f8af88958bd7efa82cdfb532c5c97c23fd33755c49c"), looks := false }, kinds := [], alts := [], laidByText := true, laidKinds := [.data], laidTests := true, laidLooks := .later }
def JournalBackCardSaid : Prop := Claim7.holds Tryd.pinned (.plain (OpenSpec.ofChange journalBackSpec)) journalBackCard

/-- THE TIED CARD OF 'cleromancylaw31.JournalScans'. -/
def journalScansCard : Claim7 := { stood := { row := journalScansRow, standIns := [], harness := (true, "dcd4a54caa27df8370ad0f8af88958bd7efa82cdfb532c5c97c23fd33755c49c"), looks := false }, kinds := [], alts := [], laidByText := true, laidKinds := [.data], laidTests := true, laidLooks := .later }
def JournalScansCardSaid : Prop := Claim7.holds Tryd.pinned (.plain (OpenSpec.ofChange journalScansSpec)) journalScansCard

/-- THE TIED CARD OF 'cleromancylaw43.TreeChecks'. -/
def treeChecksCard : Claim7 := { stood := { row := treeChecksRow, standIns := [], harness := (true, "dcd4a54caa27df8370ad0f8af88958bd7efa82cdfb532c5c97c23fd33755c49c"), looks := false }, kinds := [], alts := [], laidByText := true, laidKinds := [.data], laidTests := true, laidLooks := .later }
def TreeChecksCardSaid : Prop := Claim7.holds Tryd.pinned (.plain (OpenSpec.ofChange treeChecksSpec)) treeChecksCard

/-- THE TIED CARD OF 'cleromancylaw43.TreeShows'. -/
def treeShowsCard : Claim7 := { stood := { row := treeShowsRow, standIns := [], harness := (true, "dcd4a54caa27df8370ad0f8af88958bd7efa82cdfb532c5c97c23fd33755c49c"), looks := false }, kinds := [], alts := [], laidByText := true, laidKinds := [.data], laidTests := true, laidLooks := .later }
def TreeShowsCardSaid : Prop := Claim7.holds Tryd.pinned (.plain (OpenSpec.ofChange treeShowsSpec)) treeShowsCard

/-- THE TIED CARD OF 'cleromancylaw43.TreeRoots'. -/
def treeRootsCard : Claim7 := { stood := { row := treeRootsRow, standIns := [], harness := (true, "dcd4a54caa27df8370ad0f8af88958bd7efa82cdfb532c5c97c23fd33755c49c"), looks := false }, kinds := [], alts := [], laidByText := true, laidKinds := [.data], laidTests := true, laidLooks := .later }
def TreeRootsCardSaid : Prop := Claim7.holds Tryd.pinned (.plain (OpenSpec.ofChange treeRootsSpec)) treeRootsCard

/-- THE TIED CARD OF 'cleromancylaw41.StreamPieces'. -/
def streamPiecesCard : Claim7 := { stood := { row := streamPiecesRow, standIns := [], harness := (true, "dcd4a54caa27df8370ad0f8af88958bd7efa82cdfb532c5c97c23fd33755c49c"), looks := false }, kinds := [], alts := [], laidByText := true, laidKinds := [.data], laidTests := true, laidLooks := .later }
def StreamPiecesCardSaid : Prop := Claim7.holds Tryd.pinned (.plain (OpenSpec.ofChange streamPiecesSpec)) streamPiecesCard

/-- THE TIED CARD OF 'cleromancylaw32.RecallAll'. -/
def recallAllCard : Claim7 := { stood := { row := recallAllRow, standIns := [], harness := (true, "dcd4a54caa27df8370ad0f8af88958bd7efa82cdfb532c5c97c23fd33755c49c"), looks := false }, kinds := [], alts := [], laidByText := true, laidKinds := [.data], laidTests := true, laidLooks := .later }
def RecallAllCardSaid : Prop := Claim7.holds Tryd.pinned (.plain (OpenSpec.ofChange recallAllSpec)) recallAllCard

/-- THE TIED CARD OF 'cleromancylaw32.RecallBack'. -/
def recallBackCard : Claim7 := { stood := { row := recallBackRow, standIns := [], harness := (true, "dcd4a54caa27df8370ad0f8af88958bd7efa82cdfb532c5c97c23fd33755c49c"), looks := false }, kinds := [], alts := [], laidByText := true, laidKinds := [.data], laidTests := true, laidLooks := .later }
def RecallBackCardSaid : Prop := Claim7.holds Tryd.pinned (.plain (OpenSpec.ofChange recallBackSpec)) recallBackCard

/-- THE SECOND FORM's CARD OF 'cleromancylaw31.JournalBack'. -/
def journalBackUptoCard : Claim7 := { stood := { row := journalBackUptoRow, standIns := [], harness := (true, "dcd4a54caa27df8370ad0f8af88958bd7efa82cdfb532c5c97c23fd33755c49c"), looks := false }, kinds := [], alts := [], laidByText := true, laidKinds := [.data], laidTests := true, laidLooks := .later }
def JournalBackUptoCardSaid : Prop := Claim7.holds Tryd.pinned (.plain (OpenSpec.upto journalBackSpec)) journalBackUptoCard

/-- THE SECOND FORM's CARD OF 'cleromancylaw31.JournalScans'. -/
def journalScansUptoCard : Claim7 := { stood := { row := journalScansUptoRow, standIns := [], harness := (true, "dcd4a54caa27df8370ad0f8af88958bd7efa82cdfb532c5c97c23fd33755c49c"), looks := false }, kinds := [], alts := [], laidByText := true, laidKinds := [.data], laidTests := true, laidLooks := .later }
def JournalScansUptoCardSaid : Prop := Claim7.holds Tryd.pinned (.plain (OpenSpec.upto journalScansSpec)) journalScansUptoCard

/-- THE SECOND FORM's CARD OF 'cleromancylaw43.TreeChecks'. -/
def treeChecksUptoCard : Claim7 := { stood := { row := treeChecksUptoRow, standIns := [], harness := (true, "dcd4a54caa27df8370ad0f8af88958bd7efa82cdfb532c5c97c23fd33755c49c"), looks := false }, kinds := [], alts := [], laidByText := true, laidKinds := [.data], laidTests := true, laidLooks := .later }
def TreeChecksUptoCardSaid : Prop := Claim7.holds Tryd.pinned (.plain (OpenSpec.upto treeChecksSpec)) treeChecksUptoCard

/-- THE SECOND FORM's CARD OF 'cleromancylaw43.TreeShows'. -/
def treeShowsUptoCard : Claim7 := { stood := { row := treeShowsUptoRow, standIns := [], harness := (true, "dcd4a54caa27df8370ad0f8af88958bd7efa82cdfb532c5c97c23fd33755c49c"), looks := false }, kinds := [], alts := [], laidByText := true, laidKinds := [.data], laidTests := true, laidLooks := .later }
def TreeShowsUptoCardSaid : Prop := Claim7.holds Tryd.pinned (.plain (OpenSpec.upto treeShowsSpec)) treeShowsUptoCard

/-- THE SECOND FORM's CARD OF 'cleromancylaw43.TreeRoots'. -/
def treeRootsUptoCard : Claim7 := { stood := { row := treeRootsUptoRow, standIns := [], harness := (true, "dcd4a54caa27df8370ad0f8af88958bd7efa82cdfb532c5c97c23fd33755c49c"), looks := false }, kinds := [], alts := [], laidByText := true, laidKinds := [.data], laidTests := true, laidLooks := .later }
def TreeRootsUptoCardSaid : Prop := Claim7.holds Tryd.pinned (.plain (OpenSpec.upto treeRootsSpec)) treeRootsUptoCard

/-- THE SECOND FORM's CARD OF 'cleromancylaw41.StreamPieces'. -/
def streamPiecesUptoCard : Claim7 := { stood := { row := streamPiecesUptoRow, standIns := [], harness := (true, "dcd4a54caa27df8370ad0f8af88958bd7efa82cdfb532c5c97c23fd33755c49c"), looks := false }, kinds := [], alts := [], laidByText := true, laidKinds := [.data], laidTests := true, laidLooks := .later }
def StreamPiecesUptoCardSaid : Prop := Claim7.holds Tryd.pinned (.plain (OpenSpec.upto streamPiecesSpec)) streamPiecesUptoCard

/-- THE SECOND FORM's CARD OF 'cleromancylaw32.RecallAll'. -/
def recallAllUptoCard : Claim7 := { stood := { row := recallAllUptoRow, standIns := [], harness := (true, "dcd4a54caa27df8370ad0f8af88958bd7efa82cdfb532c5c97c23fd33755c49c"), looks := false }, kinds := [], alts := [], laidByText := true, laidKinds := [.data], laidTests := true, laidLooks := .later }
def RecallAllUptoCardSaid : Prop := Claim7.holds Tryd.pinned (.plain (OpenSpec.upto recallAllSpec)) recallAllUptoCard

/-- THE SECOND FORM's CARD OF 'cleromancylaw32.RecallBack'. -/
def recallBackUptoCard : Claim7 := { stood := { row := recallBackUptoRow, standIns := [], harness := (true, "dcd4a54caa27df8370ad0f8af88958bd7efa82cdfb532c5c97c23fd33755c49c"), looks := false }, kinds := [], alts := [], laidByText := true, laidKinds := [.data], laidTests := true, laidLooks := .later }
def RecallBackUptoCardSaid : Prop := Claim7.holds Tryd.pinned (.plain (OpenSpec.upto recallBackSpec)) recallBackUptoCard
end Rows
end Go.Proofs.YteapdhfeddgjbaaDoor
