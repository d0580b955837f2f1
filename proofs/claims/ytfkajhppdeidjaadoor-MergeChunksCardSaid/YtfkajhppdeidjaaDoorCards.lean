/-
  DERIVED. GIVEN WITH THE SEED: THE CARDS: each row of YtfkajhppdeidjaaDoorRows.lean that lists a variable, with what it lists TIED to the program's text (the seventh form; the later family's looks); each row that meets fmt, with fmt's text TOLD by the authors' own Lean function (tested against real Go, not proved from fmt's source: count such statements apart). THE CARD IS WHAT COUNTS. Prove the row's statement (the work); the ties are given (YtfkajhppdeidjaaDoorTie.lean); close each card by the builder's one call (the guide's Derived/Test/ToyasCard.lean, 'card_holds'). Laid BY PROGRAM, IN A SANDBOX (cutbox-door.mjs). By AI agents, Wed Nov 11 2026. No macro, syntax, notation, axiom, sorry.
-/
import Derived.Test.YtfkajhppdeidjaaDoorRows
import GoSem.ClaimSeven
namespace Go.Proofs.YtfkajhppdeidjaaDoor
namespace Rows

/-- THE TIED CARD OF 'pollardlaw19.MergeChunks'. -/
def mergeChunksCard : Claim7 := { stood := { row := mergeChunksRow, standIns := [], harness := (true, "982c855f28cb3e55d1a5d1706e2a1cb8fe816f7216e84b89c725206a8494fe9c"), looks := false }, kinds := [], alts := [], laidByText := true, laidKinds := [.data, .pinned], laidTests := true, laidLooks := .later }
def MergeChunksCardSaid : Prop := Claim7.holds Tryd.pinned (.plain (OpenSpec.ofChange mergeChunksSpec)) mergeChunksCard

/-- THE TIED CARD OF 'pollardlaw19.MergeCovers'. -/
def mergeCoversCard : Claim7 := { stood := { row := mergeCoversRow, standIns := [], harness := (true, "982c855f28cb3e55d1a5d1706e2a1cb8fe816f7216e84b89c725206a8494fe9c"), looks := false }, kinds := [], alts := [], laidByText := true, laidKinds := [.data, .pinned], laidTests := true, laidLooks := .later }
def MergeCoversCardSaid : Prop := Claim7.holds Tryd.pinned (.plain (OpenSpec.ofChange mergeCoversSpec)) mergeCoversCard

/-- THE TIED CARD OF 'pollardlaw19.MergeTexts'. -/
def mergeTextsCard : Claim7 := { stood := { row := mergeTextsRow, standIns := [], harness := (true, "982c855f28cb3e55d1a5d1706e2a1cb8fe816f7216e84b89c725206a8494fe9c"), looks := false }, kinds := [], alts := [], laidByText := true, laidKinds := [.data, .pinned], laidTests := true, laidLooks := .later }
def MergeTextsCardSaid : Prop := Claim7.holds Tryd.pinned (.plain (OpenSpec.ofChange mergeTextsSpec)) mergeTextsCard

/-- THE TIED CARD OF 'pollardlaw19.MergeTurned'. -/
def mergeTurnedCard : Claim7 := { stood := { row := mergeTurnedRow, standIns := [], harness := (true, "982c855f28cb3e55d1a5d1706e2a1cb8fe816f7216e84b89c725206a8494fe9c"), looks := false }, kinds := [], alts := [], laidByText := true, laidKinds := [.data, .pinned], laidTests := true, laidLooks := .later }
def MergeTurnedCardSaid : Prop := Claim7.holds Tryd.pinned (.plain (OpenSpec.ofChange mergeTurnedSpec)) mergeTurnedCard

/-- THE TIED CARD OF 'pollardlaw19.MergeOnly'. -/
def mergeOnlyCard : Claim7 := { stood := { row := mergeOnlyRow, standIns := [], harness := (true, "982c855f28cb3e55d1a5d1706e2a1cb8fe816f7216e84b89c725206a8494fe9c"), looks := false }, kinds := [], alts := [], laidByText := true, laidKinds := [.data, .pinned], laidTests := true, laidLooks := .later }
def MergeOnlyCardSaid : Prop := Claim7.holds Tryd.pinned (.plain (OpenSpec.ofChange mergeOnlySpec)) mergeOnlyCard

/-- THE TIED CARD OF 'pollardlaw19.MergeMuch'. -/
def mergeMuchCard : Claim7 := { stood := { row := mergeMuchRow, standIns := [], harness := (true, "982c855f28cb3e55d1a5d1706e2a1cb8fe816f7216e84b89c725206a8494fe9c"), looks := false }, kinds := [], alts := [], laidByText := true, laidKinds := [.data, .pinned], laidTests := true, laidLooks := .later }
def MergeMuchCardSaid : Prop := Claim7.holds Tryd.pinned (.plain (OpenSpec.ofChange mergeMuchSpec)) mergeMuchCard

/-- THE SECOND FORM's CARD OF 'pollardlaw19.MergeChunks'. -/
def mergeChunksUptoCard : Claim7 := { stood := { row := mergeChunksUptoRow, standIns := [], harness := (true, "982c855f28cb3e55d1a5d1706e2a1cb8fe816f7216e84b89c725206a8494fe9c"), looks := false }, kinds := [], alts := [], laidByText := true, laidKinds := [.data, .pinned], laidTests := true, laidLooks := .later }
def MergeChunksUptoCardSaid : Prop := Claim7.holds Tryd.pinned (.plain (OpenSpec.upto mergeChunksSpec)) mergeChunksUptoCard

/-- THE SECOND FORM's CARD OF 'pollardlaw19.MergeCovers'. -/
def mergeCoversUptoCard : Claim7 := { stood := { row := mergeCoversUptoRow, standIns := [], harness := (true, "982c855f28cb3e55d1a5d1706e2a1cb8fe816f7216e84b89c725206a8494fe9c"), looks := false }, kinds := [], alts := [], laidByText := true, laidKinds := [.data, .pinned], laidTests := true, laidLooks := .later }
def MergeCoversUptoCardSaid : Prop := Claim7.holds Tryd.pinned (.plain (OpenSpec.upto mergeCoversSpec)) mergeCoversUptoCard

/-- THE SECOND FORM's CARD OF 'pollardlaw19.MergeTexts'. -/
def mergeTextsUptoCard : Claim7 := { stood := { row := mergeTextsUptoRow, standIns := [], harness := (true, "982c855f28cb3e55d1a5d1706e2a1cb8fe816f7216e84b89c725206a8494fe9c"), looks := false }, kinds := [], alts := [], laidByText := true, laidKinds := [.data, .pinned], laidTests := true, laidLooks := .later }
def MergeTextsUptoCardSaid : Prop := Claim7.holds Tryd.pinned (.plain (OpenSpec.upto mergeTextsSpec)) mergeTextsUptoCard

/-- THE SECOND FORM's CARD OF 'pollardlaw19.MergeTurned'. -/
def mergeTurnedUptoCard : Claim7 := { stood := { row := mergeTurnedUptoRow, standIns := [], harness := (true, "982c855f28cb3e55d1a5d1706e2a1cb8fe816f7216e84b89c725206a8494fe9c"), looks := false }, kinds := [], alts := [], laidByText := true, laidKinds := [.data, .pinned], laidTests := true, laidLooks := .later }
def MergeTurnedUptoCardSaid : Prop := Claim7.holds Tryd.pinned (.plain (OpenSpec.upto mergeTurnedSpec)) mergeTurnedUptoCard

/-- THE SECOND FORM's CARD OF 'pollardlaw19.MergeOnly'. -/
def mergeOnlyUptoCard : Claim7 := { stood := { row := mergeOnlyUptoRow, standIns := [], harness := (true, "982c855f28cb3e55d1a5d1706e2a1cb8fe816f7216e84b89c725206a8494fe9c"), looks := false }, kinds := [], alts := [], laidByText := true, laidKinds := [.data, .pinned], laidTests := true, laidLooks := .later }
def MergeOnlyUptoCardSaid : Prop := Claim7.holds Tryd.pinned (.plain (OpenSpec.upto mergeOnlySpec)) mergeOnlyUptoCard

/-- THE SECOND FORM's CARD OF 'pollardlaw19.MergeMuch'. -/
def mergeMuchUptoCard : Claim7 := { stood := { row := mergeMuchUptoRow, standIns := [], harness := (true, "982c855f28cb3e55d1a5d1706e2a1cb8fe816f7216e84b89c725206a8494fe9c"), looks := false }, kinds := [], alts := [], laidByText := true, laidKinds := [.data, .pinned], laidTests := true, laidLooks := .later }
def MergeMuchUptoCardSaid : Prop := Claim7.holds Tryd.pinned (.plain (OpenSpec.upto mergeMuchSpec)) mergeMuchUptoCard
end Rows
end Go.Proofs.YtfkajhppdeidjaaDoor
