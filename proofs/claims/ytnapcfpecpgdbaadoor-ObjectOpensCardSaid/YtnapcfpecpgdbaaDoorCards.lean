/-
  DERIVED. GIVEN WITH THE SEED: THE CARDS: each row of YtnapcfpecpgdbaaDoorRows.lean that lists a variable, with what it lists TIED to the program's text (the seventh form; the later family's looks); each row that meets fmt, with fmt's text TOLD by the authors' own Lean function (tested against real Go, not proved from fmt's source: count such statements apart). THE CARD IS WHAT COUNTS. Prove the row's statement (the work); the ties are given (YtnapcfpecpgdbaaDoorTie.lean); close each card by the builder's one call (the guide's Derived/Test/ToyasCard.lean, 'card_holds'). Laid BY PROGRAM, IN A SANDBOX (cutbox-door.mjs). By AI agents, Wed Nov 11 2026. No macro, syntax, notation, axiom, sorry.
-/
import Derived.Test.YtnapcfpecpgdbaaDoorRows
import GoSem.ClaimSeven
namespace Go.Proofs.YtnapcfpecpgdbaaDoor
namespace Rows

/-- THE TIED CARD OF 'pollardlaw07.ObjectReads'. -/
def objectReadsCard : Claim7 := { stood := { row := objectReadsRow, standIns := [], harness := (true, "aed1462636f1b774f0c133fc0a48f38d37d2140067555ff6300ac85b0684f72a"), looks := false }, kinds := [], alts := [], laidByText := true, laidKinds := [.data, .pinned], laidTests := true, laidLooks := .later }
def ObjectReadsCardSaid : Prop := Claim7.holds Tryd.pinned (.plain (OpenSpec.ofChange objectReadsSpec)) objectReadsCard

/-- THE TIED CARD OF 'pollardlaw07.ObjectCommits'. -/
def objectCommitsCard : Claim7 := { stood := { row := objectCommitsRow, standIns := [], harness := (true, "aed1462636f1b774f0c133fc0a48f38d37d2140067555ff6300ac85b0684f72a"), looks := false }, kinds := [], alts := [], laidByText := true, laidKinds := [.data, .pinned], laidTests := true, laidLooks := .later }
def ObjectCommitsCardSaid : Prop := Claim7.holds Tryd.pinned (.plain (OpenSpec.ofChange objectCommitsSpec)) objectCommitsCard

/-- THE TIED CARD OF 'pollardlaw07.ObjectOpens'. -/
def objectOpensCard : Claim7 := { stood := { row := objectOpensRow, standIns := [], harness := (true, "aed1462636f1b774f0c133fc0a48f38d37d2140067555ff6300ac85b0684f72a"), looks := false }, kinds := [], alts := [], laidByText := true, laidKinds := [.data, .pinned], laidTests := true, laidLooks := .later }
def ObjectOpensCardSaid : Prop := Claim7.holds Tryd.pinned (.plain (OpenSpec.ofChange objectOpensSpec)) objectOpensCard

/-- THE SECOND FORM's CARD OF 'pollardlaw07.ObjectReads'. -/
def objectReadsUptoCard : Claim7 := { stood := { row := objectReadsUptoRow, standIns := [], harness := (true, "aed1462636f1b774f0c133fc0a48f38d37d2140067555ff6300ac85b0684f72a"), looks := false }, kinds := [], alts := [], laidByText := true, laidKinds := [.data, .pinned], laidTests := true, laidLooks := .later }
def ObjectReadsUptoCardSaid : Prop := Claim7.holds Tryd.pinned (.plain (OpenSpec.upto objectReadsSpec)) objectReadsUptoCard

/-- THE SECOND FORM's CARD OF 'pollardlaw07.ObjectCommits'. -/
def objectCommitsUptoCard : Claim7 := { stood := { row := objectCommitsUptoRow, standIns := [], harness := (true, "aed1462636f1b774f0c133fc0a48f38d37d2140067555ff6300ac85b0684f72a"), looks := false }, kinds := [], alts := [], laidByText := true, laidKinds := [.data, .pinned], laidTests := true, laidLooks := .later }
def ObjectCommitsUptoCardSaid : Prop := Claim7.holds Tryd.pinned (.plain (OpenSpec.upto objectCommitsSpec)) objectCommitsUptoCard

/-- THE SECOND FORM's CARD OF 'pollardlaw07.ObjectOpens'. -/
def objectOpensUptoCard : Claim7 := { stood := { row := objectOpensUptoRow, standIns := [], harness := (true, "aed1462636f1b774f0c133fc0a48f38d37d2140067555ff6300ac85b0684f72a"), looks := false }, kinds := [], alts := [], laidByText := true, laidKinds := [.data, .pinned], laidTests := true, laidLooks := .later }
def ObjectOpensUptoCardSaid : Prop := Claim7.holds Tryd.pinned (.plain (OpenSpec.upto objectOpensSpec)) objectOpensUptoCard
end Rows
end Go.Proofs.YtnapcfpecpgdbaaDoor
