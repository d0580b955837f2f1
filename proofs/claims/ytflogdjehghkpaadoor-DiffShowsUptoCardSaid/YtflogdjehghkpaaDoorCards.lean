/-
  DERIVED. GIVEN WITH THE SEED: THE CARDS: each row of YtflogdjehghkpaaDoorRows.lean that lists a variable, with what it lists TIED to the program's text (the seventh form; the later family's looks); each row that meets fmt, with fmt's text TOLD by the authors' own Lean function (tested against real Go, not proved from fmt's source: count such statements apart). THE CARD IS WHAT COUNTS. Prove the row's statement (the work); the ties are given (YtflogdjehghkpaaDoorTie.lean); close each card by the builder's one call (the guide's Derived/Test/ToyasCard.lean, 'card_holds'). Laid BY PROGRAM, IN A SANDBOX (cutbox-door.mjs). By AI agents, Wed Nov 11 2026. No macro, syntax, notation, axiom, sorry.
-/
import Derived.Test.YtflogdjehghkpaaDoorRows
import GoSem.ClaimSeven
namespace Go.Proofs.YtflogdjehghkpaaDoor
namespace Rows

/-- THE TIED CARD OF 'pollardlaw18.DiffLines'. -/
def diffLinesCard : Claim7 := { stood := { row := diffLinesRow, standIns := [], harness := (true, "186fef7bd0deabe8f426580f3861e665d2eda5f80d47e6b4e52de23a00ba43ef"), looks := false }, kinds := [], alts := [], laidByText := true, laidKinds := [.data, .pinned], laidTests := true, laidLooks := .later }
def DiffLinesCardSaid : Prop := Claim7.holds Tryd.pinned (.plain (OpenSpec.ofChange diffLinesSpec)) diffLinesCard

/-- THE TIED CARD OF 'pollardlaw18.DiffPairs'. -/
def diffPairsCard : Claim7 := { stood := { row := diffPairsRow, standIns := [], harness := (true, "186fef7bd0deabe8f426580f3861e665d2eda5f80d47e6b4e52de23a00ba43ef"), looks := false }, kinds := [], alts := [], laidByText := true, laidKinds := [.data, .pinned], laidTests := true, laidLooks := .later }
def DiffPairsCardSaid : Prop := Claim7.holds Tryd.pinned (.plain (OpenSpec.ofChange diffPairsSpec)) diffPairsCard

/-- THE TIED CARD OF 'pollardlaw18.DiffMost'. -/
def diffMostCard : Claim7 := { stood := { row := diffMostRow, standIns := [], harness := (true, "186fef7bd0deabe8f426580f3861e665d2eda5f80d47e6b4e52de23a00ba43ef"), looks := false }, kinds := [], alts := [], laidByText := true, laidKinds := [.data, .pinned], laidTests := true, laidLooks := .later }
def DiffMostCardSaid : Prop := Claim7.holds Tryd.pinned (.plain (OpenSpec.ofChange diffMostSpec)) diffMostCard

/-- THE TIED CARD OF 'pollardlaw18.DiffShows'. -/
def diffShowsCard : Claim7 := { stood := { row := diffShowsRow, standIns := [], harness := (true, "186fef7bd0deabe8f426580f3861e665d2eda5f80d47e6b4e52de23a00ba43ef"), looks := false }, kinds := [], alts := [], laidByText := true, laidKinds := [.data, .pinned], laidTests := true, laidLooks := .later }
def DiffShowsCardSaid : Prop := Claim7.holds Tryd.pinned (.plain (OpenSpec.ofChange diffShowsSpec)) diffShowsCard

/-- THE TIED CARD OF 'pollardlaw18.DiffMuch'. -/
def diffMuchCard : Claim7 := { stood := { row := diffMuchRow, standIns := [], harness := (true, "186fef7bd0deabe8f426580f3861e665d2eda5f80d47e6b4e52de23a00ba43ef"), looks := false }, kinds := [], alts := [], laidByText := true, laidKinds := [.data, .pinned], laidTests := true, laidLooks := .later }
def DiffMuchCardSaid : Prop := Claim7.holds Tryd.pinned (.plain (OpenSpec.ofChange diffMuchSpec)) diffMuchCard

/-- THE SECOND FORM's CARD OF 'pollardlaw18.DiffLines'. -/
def diffLinesUptoCard : Claim7 := { stood := { row := diffLinesUptoRow, standIns := [], harness := (true, "186fef7bd0deabe8f426580f3861e665d2eda5f80d47e6b4e52de23a00ba43ef"), looks := false }, kinds := [], alts := [], laidByText := true, laidKinds := [.data, .pinned], laidTests := true, laidLooks := .later }
def DiffLinesUptoCardSaid : Prop := Claim7.holds Tryd.pinned (.plain (OpenSpec.upto diffLinesSpec)) diffLinesUptoCard

/-- THE SECOND FORM's CARD OF 'pollardlaw18.DiffPairs'. -/
def diffPairsUptoCard : Claim7 := { stood := { row := diffPairsUptoRow, standIns := [], harness := (true, "186fef7bd0deabe8f426580f3861e665d2eda5f80d47e6b4e52de23a00ba43ef"), looks := false }, kinds := [], alts := [], laidByText := true, laidKinds := [.data, .pinned], laidTests := true, laidLooks := .later }
def DiffPairsUptoCardSaid : Prop := Claim7.holds Tryd.pinned (.plain (OpenSpec.upto diffPairsSpec)) diffPairsUptoCard

/-- THE SECOND FORM's CARD OF 'pollardlaw18.DiffMost'. -/
def diffMostUptoCard : Claim7 := { stood := { row := diffMostUptoRow, standIns := [], harness := (true, "186fef7bd0deabe8f426580f3861e665d2eda5f80d47e6b4e52de23a00ba43ef"), looks := false }, kinds := [], alts := [], laidByText := true, laidKinds := [.data, .pinned], laidTests := true, laidLooks := .later }
def DiffMostUptoCardSaid : Prop := Claim7.holds Tryd.pinned (.plain (OpenSpec.upto diffMostSpec)) diffMostUptoCard

/-- THE SECOND FORM's CARD OF 'pollardlaw18.DiffShows'. -/
def diffShowsUptoCard : Claim7 := { stood := { row := diffShowsUptoRow, standIns := [], harness := (true, "186fef7bd0deabe8f426580f3861e665d2eda5f80d47e6b4e52de23a00ba43ef"), looks := false }, kinds := [], alts := [], laidByText := true, laidKinds := [.data, .pinned], laidTests := true, laidLooks := .later }
def DiffShowsUptoCardSaid : Prop := Claim7.holds Tryd.pinned (.plain (OpenSpec.upto diffShowsSpec)) diffShowsUptoCard

/-- THE SECOND FORM's CARD OF 'pollardlaw18.DiffMuch'. -/
def diffMuchUptoCard : Claim7 := { stood := { row := diffMuchUptoRow, standIns := [], harness := (true, "186fef7bd0deabe8f426580f3861e665d2eda5f80d47e6b4e52de23a00ba43ef"), looks := false }, kinds := [], alts := [], laidByText := true, laidKinds := [.data, .pinned], laidTests := true, laidLooks := .later }
def DiffMuchUptoCardSaid : Prop := Claim7.holds Tryd.pinned (.plain (OpenSpec.upto diffMuchSpec)) diffMuchUptoCard
end Rows
end Go.Proofs.YtflogdjehghkpaaDoor
