/-
  DERIVED. GIVEN WITH THE SEED: THE CARDS: each row of YthdmioocgofaeaaDoorRows.lean that lists a variable, with what it lists TIED to the program's text (the seventh form; the later family's looks); each row that meets fmt, with fmt's text TOLD by the authors' own Lean function (tested against real Go, not proved from fmt's source: count such statements apart). THE CARD IS WHAT COUNTS. Prove the row's statement (the work); the ties are given (YthdmioocgofaeaaDoorTie.lean); close each card by the builder's one call (the guide's Derived/Test/ToyasCard.lean, 'card_holds'). Laid BY PROGRAM, IN A SANDBOX (cutbox-door.mjs). By AI agents, Wed Nov 11 2026. No macro, syntax, notation, axiom, sorry.
-/
import Derived.Test.YthdmioocgofaeaaDoorRows
import GoSem.ClaimSeven
namespace Go.Proofs.YthdmioocgofaeaaDoor
namespace Rows

/-- THE TIED CARD OF 'pollardlaw19.MergeCovers'. -/
def mergeCoversCard : Claim7 := { stood := { row := mergeCoversRow, standIns := [], harness := (true, "b2d46c9534d6423f28438e002e1fedefaa025409ceac48e20bb9754e0abb8278"), looks := false }, kinds := [], alts := [], laidByText := true, laidKinds := [.data, .pinned], laidTests := true, laidLooks := .later }
def MergeCoversCardSaid : Prop := Claim7.holds Tryd.pinned (.plain (OpenSpec.ofChange mergeCoversSpec)) mergeCoversCard

/-- THE SECOND FORM's CARD OF 'pollardlaw19.MergeCovers'. -/
def mergeCoversUptoCard : Claim7 := { stood := { row := mergeCoversUptoRow, standIns := [], harness := (true, "b2d46c9534d6423f28438e002e1fedefaa025409ceac48e20bb9754e0abb8278"), looks := false }, kinds := [], alts := [], laidByText := true, laidKinds := [.data, .pinned], laidTests := true, laidLooks := .later }
def MergeCoversUptoCardSaid : Prop := Claim7.holds Tryd.pinned (.plain (OpenSpec.upto mergeCoversSpec)) mergeCoversUptoCard
end Rows
end Go.Proofs.YthdmioocgofaeaaDoor
