/-
  DERIVED. GIVEN WITH THE SEED: THE CARDS: each row of YtcgdpaaemiecgaaDoorRows.lean that lists a variable, with what it lists TIED to the program's text (the seventh form; the later family's looks); each row that meets fmt, with fmt's text TOLD by the authors' own Lean function (tested against real Go, not proved from fmt's source: count such statements apart). THE CARD IS WHAT COUNTS. Prove the row's statement (the work); the ties are given (YtcgdpaaemiecgaaDoorTie.lean); close each card by the builder's one call (the guide's Derived/Test/ToyasCard.lean, 'card_holds'). Laid BY PROGRAM, IN A SANDBOX (cutbox-door.mjs). By AI agents, Wed Nov 11 2026. No macro, syntax, notation, axiom, sorry.
-/
import Derived.Test.YtcgdpaaemiecgaaDoorRows
import GoSem.ClaimSeven
namespace Go.Proofs.YtcgdpaaemiecgaaDoor
namespace Rows

/-- THE TIED CARD OF 'pollardlaw05.LabelDeep'. -/
def labelDeepCard : Claim7 := { stood := { row := labelDeepRow, standIns := [], harness := (true, "7d83e5788c9d336f50a72202e1b5d7f633a60c2774e1ced144e4a1ef2ce56f24"), looks := false }, kinds := [], alts := [], laidByText := true, laidKinds := [.data, .pinned], laidTests := true, laidLooks := .later }
def LabelDeepCardSaid : Prop := Claim7.holds Tryd.pinned (.plain (OpenSpec.ofChange labelDeepSpec)) labelDeepCard

/-- THE TIED CARD OF 'pollardlaw05.LabelSplits'. -/
def labelSplitsCard : Claim7 := { stood := { row := labelSplitsRow, standIns := [], harness := (true, "7d83e5788c9d336f50a72202e1b5d7f633a60c2774e1ced144e4a1ef2ce56f24"), looks := false }, kinds := [], alts := [], laidByText := true, laidKinds := [.data, .pinned], laidTests := true, laidLooks := .later }
def LabelSplitsCardSaid : Prop := Claim7.holds Tryd.pinned (.plain (OpenSpec.ofChange labelSplitsSpec)) labelSplitsCard

/-- THE SECOND FORM's CARD OF 'pollardlaw05.LabelDeep'. -/
def labelDeepUptoCard : Claim7 := { stood := { row := labelDeepUptoRow, standIns := [], harness := (true, "7d83e5788c9d336f50a72202e1b5d7f633a60c2774e1ced144e4a1ef2ce56f24"), looks := false }, kinds := [], alts := [], laidByText := true, laidKinds := [.data, .pinned], laidTests := true, laidLooks := .later }
def LabelDeepUptoCardSaid : Prop := Claim7.holds Tryd.pinned (.plain (OpenSpec.upto labelDeepSpec)) labelDeepUptoCard

/-- THE SECOND FORM's CARD OF 'pollardlaw05.LabelSplits'. -/
def labelSplitsUptoCard : Claim7 := { stood := { row := labelSplitsUptoRow, standIns := [], harness := (true, "7d83e5788c9d336f50a72202e1b5d7f633a60c2774e1ced144e4a1ef2ce56f24"), looks := false }, kinds := [], alts := [], laidByText := true, laidKinds := [.data, .pinned], laidTests := true, laidLooks := .later }
def LabelSplitsUptoCardSaid : Prop := Claim7.holds Tryd.pinned (.plain (OpenSpec.upto labelSplitsSpec)) labelSplitsUptoCard
end Rows
end Go.Proofs.YtcgdpaaemiecgaaDoor
