/-
  No cell of these rows narrows 'for every input' (looked for: loops, veiled, ifaces, maps, wideKeys, modest, calm, conditions, laid).
  DERIVED. THE GIVEN ROWS OF THIS SEAT. 5 by the template 'for every input the law returns true; each argument reads behind the call as it read before'; 0 by the template 'total and deterministic' (their statements: YtnapcfpecpgdbaaTotals.lean).
  GIVEN WITH THE SEED: the statements are not yours to turn. If you find one false, say at which input.
  Laid BY PROGRAM, IN A SANDBOX (cutbox-rows.mjs): the forced cells as the released guide's own fill.sh prints them over the translation f0cdd1ec8c4a653b… (all of the seat's roots in one cut). By AI agents, Wed Nov 11 2026. No macro, syntax, notation, axiom, sorry.
-/
import Derived.Test.YtnapcfpecpgdbaaChecked
import GoSem.Claim
import GoSem.ClaimJoined
import GoSem.ClaimMapViews
import Derived.JoinedTies
import Derived.KernelRfl
namespace Go.Proofs.Ytnapcfpecpgdbaa
/- THE CELL 'sum', in the pinned program and in every row, IS THE sha256 OF THE DUMP (.gsa) THAT YtnapcfpecpgdbaaProg.lean LOADS. Nothing in Lean hashes anything: it is a label: what it is worth is what the hold of that sum in a sandbox is worth. -/
noncomputable def Try.pinned : Pinned := { name := "ytnapcfpecpgdbaa", sum := "f0cdd1ec8c4a653b10c30677f7151503e954e2e17d09c7b2ec487eab78017d66", checked := Try.checked }
namespace Rows
def none {H : Type} : Left H := { results := [], args := [] }

/-- 'pollardlaw07.ObjectRaws': WHATEVER THE INPUT: true; the input reads as it did. -/
def objectRawsSpec : ChangeSpec := { name := "objectRaws", fn := fun _ => fun
  | [d1, d2] => { results := [.lit (.bool true)], args := [d1, d2] }
  | _ => none }
def objectRawsRow : OpenClaim := { program := "ytnapcfpecpgdbaa", sum := "f0cdd1ec8c4a653b10c30677f7151503e954e2e17d09c7b2ec487eab78017d66", func := "pollard/pollardlaw07.ObjectRaws", spec := "objectRaws", inPlace := ["internal/bytealg.IndexByteString", "internal/bytealg.IndexString"], recurses := true, named := ["internal/bytealg.MaxLen"], apart := false }
def ObjectRawsSaid : Prop := objectRawsRow.holds Try.pinned (OpenSpec.ofChange objectRawsSpec)

/-- ITS FALSE NEIGHBOUR: 'it returns false'. Refute it at one input. -/
def objectRawsWrong : ChangeSpec := { name := "objectRaws", fn := fun _ => fun
  | [d1, d2] => { results := [.lit (.bool false)], args := [d1, d2] }
  | _ => none }
def ObjectRawsWrongFalsely : Prop := objectRawsRow.holds Try.pinned (OpenSpec.ofChange objectRawsWrong)

/-- 'pollardlaw07.ObjectMost': WHATEVER THE INPUT: true; the input reads as it did. -/
def objectMostSpec : ChangeSpec := { name := "objectMost", fn := fun _ => fun
  | [d] => { results := [.lit (.bool true)], args := [d] }
  | _ => none }
def objectMostRow : OpenClaim := { program := "ytnapcfpecpgdbaa", sum := "f0cdd1ec8c4a653b10c30677f7151503e954e2e17d09c7b2ec487eab78017d66", func := "pollard/pollardlaw07.ObjectMost", spec := "objectMost", inPlace := ["internal/bytealg.IndexByteString", "internal/bytealg.IndexString"], recurses := true, named := ["internal/bytealg.MaxLen"], apart := false }
def ObjectMostSaid : Prop := objectMostRow.holds Try.pinned (OpenSpec.ofChange objectMostSpec)

/-- ITS FALSE NEIGHBOUR: 'it returns false'. Refute it at one input. -/
def objectMostWrong : ChangeSpec := { name := "objectMost", fn := fun _ => fun
  | [d] => { results := [.lit (.bool false)], args := [d] }
  | _ => none }
def ObjectMostWrongFalsely : Prop := objectMostRow.holds Try.pinned (OpenSpec.ofChange objectMostWrong)

/-- 'pollardlaw07.ObjectUnlike': WHATEVER THE INPUT: true; the input reads as it did. -/
def objectUnlikeSpec : ChangeSpec := { name := "objectUnlike", fn := fun _ => fun
  | [d1, d2, d3] => { results := [.lit (.bool true)], args := [d1, d2, d3] }
  | _ => none }
def objectUnlikeRow : OpenClaim := { program := "ytnapcfpecpgdbaa", sum := "f0cdd1ec8c4a653b10c30677f7151503e954e2e17d09c7b2ec487eab78017d66", func := "pollard/pollardlaw07.ObjectUnlike", spec := "objectUnlike", inPlace := ["internal/bytealg.IndexByteString", "internal/bytealg.IndexString"], named := ["internal/bytealg.MaxLen"], apart := false }
def ObjectUnlikeSaid : Prop := objectUnlikeRow.holds Try.pinned (OpenSpec.ofChange objectUnlikeSpec)

/-- ITS FALSE NEIGHBOUR: 'it returns false'. Refute it at one input. -/
def objectUnlikeWrong : ChangeSpec := { name := "objectUnlike", fn := fun _ => fun
  | [d1, d2, d3] => { results := [.lit (.bool false)], args := [d1, d2, d3] }
  | _ => none }
def ObjectUnlikeWrongFalsely : Prop := objectUnlikeRow.holds Try.pinned (OpenSpec.ofChange objectUnlikeWrong)

/-- 'pollardlaw07.ObjectFinds': WHATEVER THE INPUT: true; the input reads as it did. -/
def objectFindsSpec : ChangeSpec := { name := "objectFinds", fn := fun _ => fun
  | [d] => { results := [.lit (.bool true)], args := [d] }
  | _ => none }
def objectFindsRow : OpenClaim := { program := "ytnapcfpecpgdbaa", sum := "f0cdd1ec8c4a653b10c30677f7151503e954e2e17d09c7b2ec487eab78017d66", func := "pollard/pollardlaw07.ObjectFinds", spec := "objectFinds", inPlace := ["internal/bytealg.IndexByteString", "internal/bytealg.IndexString"], named := ["internal/bytealg.MaxLen"], apart := false }
def ObjectFindsSaid : Prop := objectFindsRow.holds Try.pinned (OpenSpec.ofChange objectFindsSpec)

/-- ITS FALSE NEIGHBOUR: 'it returns false'. Refute it at one input. -/
def objectFindsWrong : ChangeSpec := { name := "objectFinds", fn := fun _ => fun
  | [d] => { results := [.lit (.bool false)], args := [d] }
  | _ => none }
def ObjectFindsWrongFalsely : Prop := objectFindsRow.holds Try.pinned (OpenSpec.ofChange objectFindsWrong)

/-- 'pollardlaw07.ObjectTags': WHATEVER THE INPUT: true; the input reads as it did. -/
def objectTagsSpec : ChangeSpec := { name := "objectTags", fn := fun _ => fun
  | [d] => { results := [.lit (.bool true)], args := [d] }
  | _ => none }
def objectTagsRow : OpenClaim := { program := "ytnapcfpecpgdbaa", sum := "f0cdd1ec8c4a653b10c30677f7151503e954e2e17d09c7b2ec487eab78017d66", func := "pollard/pollardlaw07.ObjectTags", spec := "objectTags", inPlace := ["internal/abi.NoEscape", "internal/bytealg.IndexByteString", "internal/bytealg.IndexString"], named := ["internal/bytealg.MaxLen"], apart := false }
def ObjectTagsSaid : Prop := objectTagsRow.holds Try.pinned (OpenSpec.ofChange objectTagsSpec)

/-- ITS FALSE NEIGHBOUR: 'it returns false'. Refute it at one input. -/
def objectTagsWrong : ChangeSpec := { name := "objectTags", fn := fun _ => fun
  | [d] => { results := [.lit (.bool false)], args := [d] }
  | _ => none }
def ObjectTagsWrongFalsely : Prop := objectTagsRow.holds Try.pinned (OpenSpec.ofChange objectTagsWrong)

/- THE SECOND FORM. 'bulk': how many values and letters a reading holds, each counted each time it is reached (what is shared counts as often as it is met; a slice's spare places count too). A statement '..UptoSaid' is the law's where the arguments, and the package variables that the reading takes, are together of bulk at most 1048576: NARROWER than '..Said'. Prove '..Said' where nothing that the law and all that it calls make is longer than what came in: it says more and counts as full. Else prove '..UptoSaid'. A law counts once. -/
mutual
def uptoBulk {H : Type} : DataW H → Nat
  | .lit (.string bytes) => bytes.length + 1
  | .lit _ => 1
  | .nil => 1
  | .ptr d => uptoBulk d + 1
  | .slice elems spare => uptoBulkAll elems + uptoBulkAll spare + 1
  | .agg parts => uptoBulkAll parts + 1
  | .iface _ d => uptoBulk d + 1
  | .map entries => uptoBulkEntries entries + 1
  | .held _ => 1
def uptoBulkAll {H : Type} : List (DataW H) → Nat
  | [] => 0
  | d :: r => uptoBulk d + uptoBulkAll r
def uptoBulkEntries {H : Type} : List (Lit × DataW H) → Nat
  | [] => 0
  | x :: r => uptoBulkEntry x + uptoBulkEntries r
def uptoBulkEntry {H : Type} : Lit × DataW H → Nat
  | (.string bytes, d) => bytes.length + uptoBulk d + 1
  | (_, d) => uptoBulk d + 1
 end
def uptoSmall : (H : Type) → List (DataW H) → Bool := fun _ ds => decide (uptoBulkAll ds ≤ 1048576)
def OpenSpec.upto (s : _root_.Go.ChangeSpec) : _root_.Go.OpenSpec := { _root_.Go.OpenSpec.ofChange s with cond := some uptoSmall }

/-- 'pollardlaw07.ObjectRaws', WHERE WHAT IT READS IS OF BULK AT MOST 1048576: true; the input reads as it did. -/
def objectRawsUptoRow : OpenClaim := { program := "ytnapcfpecpgdbaa", sum := "f0cdd1ec8c4a653b10c30677f7151503e954e2e17d09c7b2ec487eab78017d66", func := "pollard/pollardlaw07.ObjectRaws", spec := "objectRaws", inPlace := ["internal/bytealg.IndexByteString", "internal/bytealg.IndexString"], recurses := true, named := ["internal/bytealg.MaxLen"], apart := false, narrowed := true }
def ObjectRawsUptoSaid : Prop := objectRawsUptoRow.holds Try.pinned (OpenSpec.upto objectRawsSpec)

/-- 'pollardlaw07.ObjectMost', WHERE WHAT IT READS IS OF BULK AT MOST 1048576: true; the input reads as it did. -/
def objectMostUptoRow : OpenClaim := { program := "ytnapcfpecpgdbaa", sum := "f0cdd1ec8c4a653b10c30677f7151503e954e2e17d09c7b2ec487eab78017d66", func := "pollard/pollardlaw07.ObjectMost", spec := "objectMost", inPlace := ["internal/bytealg.IndexByteString", "internal/bytealg.IndexString"], recurses := true, named := ["internal/bytealg.MaxLen"], apart := false, narrowed := true }
def ObjectMostUptoSaid : Prop := objectMostUptoRow.holds Try.pinned (OpenSpec.upto objectMostSpec)

/-- 'pollardlaw07.ObjectUnlike', WHERE WHAT IT READS IS OF BULK AT MOST 1048576: true; the input reads as it did. -/
def objectUnlikeUptoRow : OpenClaim := { program := "ytnapcfpecpgdbaa", sum := "f0cdd1ec8c4a653b10c30677f7151503e954e2e17d09c7b2ec487eab78017d66", func := "pollard/pollardlaw07.ObjectUnlike", spec := "objectUnlike", inPlace := ["internal/bytealg.IndexByteString", "internal/bytealg.IndexString"], named := ["internal/bytealg.MaxLen"], apart := false, narrowed := true }
def ObjectUnlikeUptoSaid : Prop := objectUnlikeUptoRow.holds Try.pinned (OpenSpec.upto objectUnlikeSpec)

/-- 'pollardlaw07.ObjectFinds', WHERE WHAT IT READS IS OF BULK AT MOST 1048576: true; the input reads as it did. -/
def objectFindsUptoRow : OpenClaim := { program := "ytnapcfpecpgdbaa", sum := "f0cdd1ec8c4a653b10c30677f7151503e954e2e17d09c7b2ec487eab78017d66", func := "pollard/pollardlaw07.ObjectFinds", spec := "objectFinds", inPlace := ["internal/bytealg.IndexByteString", "internal/bytealg.IndexString"], named := ["internal/bytealg.MaxLen"], apart := false, narrowed := true }
def ObjectFindsUptoSaid : Prop := objectFindsUptoRow.holds Try.pinned (OpenSpec.upto objectFindsSpec)

/-- 'pollardlaw07.ObjectTags', WHERE WHAT IT READS IS OF BULK AT MOST 1048576: true; the input reads as it did. -/
def objectTagsUptoRow : OpenClaim := { program := "ytnapcfpecpgdbaa", sum := "f0cdd1ec8c4a653b10c30677f7151503e954e2e17d09c7b2ec487eab78017d66", func := "pollard/pollardlaw07.ObjectTags", spec := "objectTags", inPlace := ["internal/abi.NoEscape", "internal/bytealg.IndexByteString", "internal/bytealg.IndexString"], named := ["internal/bytealg.MaxLen"], apart := false, narrowed := true }
def ObjectTagsUptoSaid : Prop := objectTagsUptoRow.holds Try.pinned (OpenSpec.upto objectTagsSpec)

end Rows
end Go.Proofs.Ytnapcfpecpgdbaa
