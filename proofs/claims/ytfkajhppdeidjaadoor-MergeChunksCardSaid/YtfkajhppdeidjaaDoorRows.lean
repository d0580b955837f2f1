/-
  NARROWER THAN 'FOR EVERY INPUT', by the rows' own cells (each row's printed sentence says how): MergeChunks: laid · MergeCovers: laid · MergeTexts: laid · MergeTurned: laid · MergeOnly: laid · MergeMuch: laid.
  DERIVED. THE GIVEN ROWS OF THIS SEAT. 6 by the template 'for every input the law returns true; each argument reads behind the call as it read before'; 0 by the template 'total and deterministic' (their statements: YtfkajhppdeidjaaDoorTotals.lean).
  GIVEN WITH THE SEED: the statements are not yours to turn. If you find one false, say at which input.
  Laid BY PROGRAM, IN A SANDBOX (cutbox-rows.mjs): the forced cells as the released guide's own fill.sh prints them over the translation eda509b91afd61d5… (all of the seat's roots in one cut). By AI agents, Wed Nov 11 2026. No macro, syntax, notation, axiom, sorry.
-/
import Derived.Test.YtfkajhppdeidjaaDoorChecked
import GoSem.PinnedTables
import GoSem.Claim
import GoSem.ClaimJoined
import GoSem.ClaimMapViews
import Derived.JoinedTies
import Derived.KernelRfl
namespace Go.Proofs.YtfkajhppdeidjaaDoor
/- THE CELL 'sum', in the pinned program and in every row, IS THE sha256 OF THE DUMP (.gsa) THAT YtfkajhppdeidjaaDoorProg.lean LOADS. Nothing in Lean hashes anything: it is a label: what it is worth is what the hold of that sum in a sandbox is worth. -/
noncomputable def Tryd.pinned : Pinned := { name := "ytfkajhppdeidjaadoor", sum := "eda509b91afd61d5d1ab1c423ef22d3943c275be20ddfcf8acd03b7bdda21ae2", checked := Tryd.checked }
namespace Rows
def none {H : Type} : Left H := { results := [], args := [] }

/- WHAT THE LISTED PACKAGE-LEVEL VARIABLES READ AS WHEN THE CALL BEGINS. Each datum BY PROGRAM (the guide's laid-datum.mjs) off the statement by which the dump's own 'gosem.cut.vars' lays the variable. In a bare row this is a premise. The card (YtfkajhppdeidjaaDoorCards.lean) ties it to the program's text. -/
def laid_unicode_utf8_acceptRanges {H : Type} : DataW H := .agg [.agg [.lit (.int .u8 128), .lit (.int .u8 191)], .agg [.lit (.int .u8 160), .lit (.int .u8 191)], .agg [.lit (.int .u8 128), .lit (.int .u8 159)], .agg [.lit (.int .u8 144), .lit (.int .u8 191)], .agg [.lit (.int .u8 128), .lit (.int .u8 143)], .agg [.lit (.int .u8 0), .lit (.int .u8 0)], .agg [.lit (.int .u8 0), .lit (.int .u8 0)], .agg [.lit (.int .u8 0), .lit (.int .u8 0)], .agg [.lit (.int .u8 0), .lit (.int .u8 0)], .agg [.lit (.int .u8 0), .lit (.int .u8 0)], .agg [.lit (.int .u8 0), .lit (.int .u8 0)], .agg [.lit (.int .u8 0), .lit (.int .u8 0)], .agg [.lit (.int .u8 0), .lit (.int .u8 0)], .agg [.lit (.int .u8 0), .lit (.int .u8 0)], .agg [.lit (.int .u8 0), .lit (.int .u8 0)], .agg [.lit (.int .u8 0), .lit (.int .u8 0)]]
/-- One of Go's own tables, pinned by name: the form's constant. -/
def laid_unicode_utf8_first : DataW Unit := Go.Pinned.utf8First

/-- 'pollardlaw19.MergeChunks': WHATEVER THE INPUT: true; the input reads as it did. -/
def mergeChunksSpec : ChangeSpec := { name := "mergeChunks", fn := fun _ => fun
  | [d1, d2, d3] => { results := [.lit (.bool true)], args := [d1, d2, d3] }
  | _ => none }
def mergeChunksRow : OpenClaim := { program := "ytfkajhppdeidjaadoor", sum := "eda509b91afd61d5d1ab1c423ef22d3943c275be20ddfcf8acd03b7bdda21ae2", func := "pollard/pollardlaw19.MergeChunks", spec := "mergeChunks", inPlace := ["internal/bytealg.CountString", "internal/bytealg.IndexByteString", "internal/bytealg.IndexString", "internal/abi.NoEscape", "internal/bytealg.MakeNoZero"], named := ["unicode/utf8.first", "unicode/utf8.acceptRanges", "internal/bytealg.MaxLen"], apart := false, laid := [("unicode/utf8.acceptRanges", laid_unicode_utf8_acceptRanges), ("unicode/utf8.first", laid_unicode_utf8_first)] }
def MergeChunksSaid : Prop := mergeChunksRow.holds Tryd.pinned (OpenSpec.ofChange mergeChunksSpec)

/-- ITS FALSE NEIGHBOUR: 'it returns false'. Refute it at one input. -/
def mergeChunksWrong : ChangeSpec := { name := "mergeChunks", fn := fun _ => fun
  | [d1, d2, d3] => { results := [.lit (.bool false)], args := [d1, d2, d3] }
  | _ => none }
def MergeChunksWrongFalsely : Prop := mergeChunksRow.holds Tryd.pinned (OpenSpec.ofChange mergeChunksWrong)

/-- 'pollardlaw19.MergeCovers': WHATEVER THE INPUT: true; the input reads as it did. -/
def mergeCoversSpec : ChangeSpec := { name := "mergeCovers", fn := fun _ => fun
  | [d1, d2, d3] => { results := [.lit (.bool true)], args := [d1, d2, d3] }
  | _ => none }
def mergeCoversRow : OpenClaim := { program := "ytfkajhppdeidjaadoor", sum := "eda509b91afd61d5d1ab1c423ef22d3943c275be20ddfcf8acd03b7bdda21ae2", func := "pollard/pollardlaw19.MergeCovers", spec := "mergeCovers", inPlace := ["internal/bytealg.CountString", "internal/bytealg.IndexByteString", "internal/bytealg.IndexString", "internal/abi.NoEscape", "internal/bytealg.MakeNoZero"], named := ["unicode/utf8.first", "unicode/utf8.acceptRanges", "internal/bytealg.MaxLen"], apart := false, laid := [("unicode/utf8.acceptRanges", laid_unicode_utf8_acceptRanges), ("unicode/utf8.first", laid_unicode_utf8_first)] }
def MergeCoversSaid : Prop := mergeCoversRow.holds Tryd.pinned (OpenSpec.ofChange mergeCoversSpec)

/-- ITS FALSE NEIGHBOUR: 'it returns false'. Refute it at one input. -/
def mergeCoversWrong : ChangeSpec := { name := "mergeCovers", fn := fun _ => fun
  | [d1, d2, d3] => { results := [.lit (.bool false)], args := [d1, d2, d3] }
  | _ => none }
def MergeCoversWrongFalsely : Prop := mergeCoversRow.holds Tryd.pinned (OpenSpec.ofChange mergeCoversWrong)

/-- 'pollardlaw19.MergeTexts': WHATEVER THE INPUT: true; the input reads as it did. -/
def mergeTextsSpec : ChangeSpec := { name := "mergeTexts", fn := fun _ => fun
  | [d1, d2, d3] => { results := [.lit (.bool true)], args := [d1, d2, d3] }
  | _ => none }
def mergeTextsRow : OpenClaim := { program := "ytfkajhppdeidjaadoor", sum := "eda509b91afd61d5d1ab1c423ef22d3943c275be20ddfcf8acd03b7bdda21ae2", func := "pollard/pollardlaw19.MergeTexts", spec := "mergeTexts", inPlace := ["internal/bytealg.CountString", "internal/bytealg.IndexByteString", "internal/bytealg.IndexString", "internal/abi.NoEscape", "internal/bytealg.MakeNoZero"], named := ["unicode/utf8.first", "unicode/utf8.acceptRanges", "internal/bytealg.MaxLen"], apart := false, laid := [("unicode/utf8.acceptRanges", laid_unicode_utf8_acceptRanges), ("unicode/utf8.first", laid_unicode_utf8_first)] }
def MergeTextsSaid : Prop := mergeTextsRow.holds Tryd.pinned (OpenSpec.ofChange mergeTextsSpec)

/-- ITS FALSE NEIGHBOUR: 'it returns false'. Refute it at one input. -/
def mergeTextsWrong : ChangeSpec := { name := "mergeTexts", fn := fun _ => fun
  | [d1, d2, d3] => { results := [.lit (.bool false)], args := [d1, d2, d3] }
  | _ => none }
def MergeTextsWrongFalsely : Prop := mergeTextsRow.holds Tryd.pinned (OpenSpec.ofChange mergeTextsWrong)

/-- 'pollardlaw19.MergeTurned': WHATEVER THE INPUT: true; the input reads as it did. -/
def mergeTurnedSpec : ChangeSpec := { name := "mergeTurned", fn := fun _ => fun
  | [d1, d2, d3] => { results := [.lit (.bool true)], args := [d1, d2, d3] }
  | _ => none }
def mergeTurnedRow : OpenClaim := { program := "ytfkajhppdeidjaadoor", sum := "eda509b91afd61d5d1ab1c423ef22d3943c275be20ddfcf8acd03b7bdda21ae2", func := "pollard/pollardlaw19.MergeTurned", spec := "mergeTurned", inPlace := ["internal/bytealg.CountString", "internal/bytealg.IndexByteString", "internal/bytealg.IndexString", "internal/abi.NoEscape", "internal/bytealg.MakeNoZero"], named := ["unicode/utf8.first", "unicode/utf8.acceptRanges", "internal/bytealg.MaxLen"], apart := false, laid := [("unicode/utf8.acceptRanges", laid_unicode_utf8_acceptRanges), ("unicode/utf8.first", laid_unicode_utf8_first)] }
def MergeTurnedSaid : Prop := mergeTurnedRow.holds Tryd.pinned (OpenSpec.ofChange mergeTurnedSpec)

/-- ITS FALSE NEIGHBOUR: 'it returns false'. Refute it at one input. -/
def mergeTurnedWrong : ChangeSpec := { name := "mergeTurned", fn := fun _ => fun
  | [d1, d2, d3] => { results := [.lit (.bool false)], args := [d1, d2, d3] }
  | _ => none }
def MergeTurnedWrongFalsely : Prop := mergeTurnedRow.holds Tryd.pinned (OpenSpec.ofChange mergeTurnedWrong)

/-- 'pollardlaw19.MergeOnly': WHATEVER THE INPUT: true; the input reads as it did. -/
def mergeOnlySpec : ChangeSpec := { name := "mergeOnly", fn := fun _ => fun
  | [d1, d2] => { results := [.lit (.bool true)], args := [d1, d2] }
  | _ => none }
def mergeOnlyRow : OpenClaim := { program := "ytfkajhppdeidjaadoor", sum := "eda509b91afd61d5d1ab1c423ef22d3943c275be20ddfcf8acd03b7bdda21ae2", func := "pollard/pollardlaw19.MergeOnly", spec := "mergeOnly", inPlace := ["internal/bytealg.CountString", "internal/bytealg.IndexByteString", "internal/bytealg.IndexString", "internal/abi.NoEscape", "internal/bytealg.MakeNoZero"], named := ["unicode/utf8.first", "unicode/utf8.acceptRanges", "internal/bytealg.MaxLen"], apart := false, laid := [("unicode/utf8.acceptRanges", laid_unicode_utf8_acceptRanges), ("unicode/utf8.first", laid_unicode_utf8_first)] }
def MergeOnlySaid : Prop := mergeOnlyRow.holds Tryd.pinned (OpenSpec.ofChange mergeOnlySpec)

/-- ITS FALSE NEIGHBOUR: 'it returns false'. Refute it at one input. -/
def mergeOnlyWrong : ChangeSpec := { name := "mergeOnly", fn := fun _ => fun
  | [d1, d2] => { results := [.lit (.bool false)], args := [d1, d2] }
  | _ => none }
def MergeOnlyWrongFalsely : Prop := mergeOnlyRow.holds Tryd.pinned (OpenSpec.ofChange mergeOnlyWrong)

/-- 'pollardlaw19.MergeMuch': WHATEVER THE INPUT: true; the input reads as it did. -/
def mergeMuchSpec : ChangeSpec := { name := "mergeMuch", fn := fun _ => fun
  | [d] => { results := [.lit (.bool true)], args := [d] }
  | _ => none }
def mergeMuchRow : OpenClaim := { program := "ytfkajhppdeidjaadoor", sum := "eda509b91afd61d5d1ab1c423ef22d3943c275be20ddfcf8acd03b7bdda21ae2", func := "pollard/pollardlaw19.MergeMuch", spec := "mergeMuch", inPlace := ["internal/bytealg.CountString", "internal/bytealg.IndexByteString", "internal/bytealg.IndexString", "internal/abi.NoEscape", "internal/bytealg.MakeNoZero"], named := ["unicode/utf8.first", "unicode/utf8.acceptRanges", "internal/bytealg.MaxLen"], apart := false, laid := [("unicode/utf8.acceptRanges", laid_unicode_utf8_acceptRanges), ("unicode/utf8.first", laid_unicode_utf8_first)] }
def MergeMuchSaid : Prop := mergeMuchRow.holds Tryd.pinned (OpenSpec.ofChange mergeMuchSpec)

/-- ITS FALSE NEIGHBOUR: 'it returns false'. Refute it at one input. -/
def mergeMuchWrong : ChangeSpec := { name := "mergeMuch", fn := fun _ => fun
  | [d] => { results := [.lit (.bool false)], args := [d] }
  | _ => none }
def MergeMuchWrongFalsely : Prop := mergeMuchRow.holds Tryd.pinned (OpenSpec.ofChange mergeMuchWrong)

/- THE SECOND FORM. 'bulk': how many values and letters a reading holds, each counted each time it is reached (what is shared counts as often as it is met; a slice's spare places count too). A statement '..UptoSaid' is the law's where the arguments, and the package variables that the reading takes, are together of bulk at most 1048576: NARROWER than '..Said'. Prove '..Said' where nothing that the law and all that it calls make is longer than what came in: it says more and counts as full. Else prove '..UptoSaid'. A law counts once. -/
mutual
def uptoBulk {H : Type} : DataW H → Nat
  | .lit (.string bytes) => bytes.length + 1
  | .lit _ => 1
  | .nil => 1
  | .ptr d => uptoBulk d + 1
  | .slice elems spare => uptoBulkAll elems + uptoBulkAll spare + 1
  | .agg parts => uptoBulkAll parts + 1
  | .iface _ d => uptoBulk d + 1
  | .map entries => uptoBulkEntries entries + 1
  | .held _ => 1
def uptoBulkAll {H : Type} : List (DataW H) → Nat
  | [] => 0
  | d :: r => uptoBulk d + uptoBulkAll r
def uptoBulkEntries {H : Type} : List (Lit × DataW H) → Nat
  | [] => 0
  | x :: r => uptoBulkEntry x + uptoBulkEntries r
def uptoBulkEntry {H : Type} : Lit × DataW H → Nat
  | (.string bytes, d) => bytes.length + uptoBulk d + 1
  | (_, d) => uptoBulk d + 1
 end
def uptoSmall : (H : Type) → List (DataW H) → Bool := fun _ ds => decide (uptoBulkAll ds ≤ 1048576)
def OpenSpec.upto (s : _root_.Go.ChangeSpec) : _root_.Go.OpenSpec := { _root_.Go.OpenSpec.ofChange s with cond := some uptoSmall }

/-- 'pollardlaw19.MergeChunks', WHERE WHAT IT READS IS OF BULK AT MOST 1048576: true; the input reads as it did. -/
def mergeChunksUptoRow : OpenClaim := { program := "ytfkajhppdeidjaadoor", sum := "eda509b91afd61d5d1ab1c423ef22d3943c275be20ddfcf8acd03b7bdda21ae2", func := "pollard/pollardlaw19.MergeChunks", spec := "mergeChunks", inPlace := ["internal/bytealg.CountString", "internal/bytealg.IndexByteString", "internal/bytealg.IndexString", "internal/abi.NoEscape", "internal/bytealg.MakeNoZero"], named := ["unicode/utf8.first", "unicode/utf8.acceptRanges", "internal/bytealg.MaxLen"], apart := false, laid := [("unicode/utf8.acceptRanges", laid_unicode_utf8_acceptRanges), ("unicode/utf8.first", laid_unicode_utf8_first)], narrowed := true }
def MergeChunksUptoSaid : Prop := mergeChunksUptoRow.holds Tryd.pinned (OpenSpec.upto mergeChunksSpec)

/-- 'pollardlaw19.MergeCovers', WHERE WHAT IT READS IS OF BULK AT MOST 1048576: true; the input reads as it did. -/
def mergeCoversUptoRow : OpenClaim := { program := "ytfkajhppdeidjaadoor", sum := "eda509b91afd61d5d1ab1c423ef22d3943c275be20ddfcf8acd03b7bdda21ae2", func := "pollard/pollardlaw19.MergeCovers", spec := "mergeCovers", inPlace := ["internal/bytealg.CountString", "internal/bytealg.IndexByteString", "internal/bytealg.IndexString", "internal/abi.NoEscape", "internal/bytealg.MakeNoZero"], named := ["unicode/utf8.first", "unicode/utf8.acceptRanges", "internal/bytealg.MaxLen"], apart := false, laid := [("unicode/utf8.acceptRanges", laid_unicode_utf8_acceptRanges), ("unicode/utf8.first", laid_unicode_utf8_first)], narrowed := true }
def MergeCoversUptoSaid : Prop := mergeCoversUptoRow.holds Tryd.pinned (OpenSpec.upto mergeCoversSpec)

/-- 'pollardlaw19.MergeTexts', WHERE WHAT IT READS IS OF BULK AT MOST 1048576: true; the input reads as it did. -/
def mergeTextsUptoRow : OpenClaim := { program := "ytfkajhppdeidjaadoor", sum := "eda509b91afd61d5d1ab1c423ef22d3943c275be20ddfcf8acd03b7bdda21ae2", func := "pollard/pollardlaw19.MergeTexts", spec := "mergeTexts", inPlace := ["internal/bytealg.CountString", "internal/bytealg.IndexByteString", "internal/bytealg.IndexString", "internal/abi.NoEscape", "internal/bytealg.MakeNoZero"], named := ["unicode/utf8.first", "unicode/utf8.acceptRanges", "internal/bytealg.MaxLen"], apart := false, laid := [("unicode/utf8.acceptRanges", laid_unicode_utf8_acceptRanges), ("unicode/utf8.first", laid_unicode_utf8_first)], narrowed := true }
def MergeTextsUptoSaid : Prop := mergeTextsUptoRow.holds Tryd.pinned (OpenSpec.upto mergeTextsSpec)

/-- 'pollardlaw19.MergeTurned', WHERE WHAT IT READS IS OF BULK AT MOST 1048576: true; the input reads as it did. -/
def mergeTurnedUptoRow : OpenClaim := { program := "ytfkajhppdeidjaadoor", sum := "eda509b91afd61d5d1ab1c423ef22d3943c275be20ddfcf8acd03b7bdda21ae2", func := "pollard/pollardlaw19.MergeTurned", spec := "mergeTurned", inPlace := ["internal/bytealg.CountString", "internal/bytealg.IndexByteString", "internal/bytealg.IndexString", "internal/abi.NoEscape", "internal/bytealg.MakeNoZero"], named := ["unicode/utf8.first", "unicode/utf8.acceptRanges", "internal/bytealg.MaxLen"], apart := false, laid := [("unicode/utf8.acceptRanges", laid_unicode_utf8_acceptRanges), ("unicode/utf8.first", laid_unicode_utf8_first)], narrowed := true }
def MergeTurnedUptoSaid : Prop := mergeTurnedUptoRow.holds Tryd.pinned (OpenSpec.upto mergeTurnedSpec)

/-- 'pollardlaw19.MergeOnly', WHERE WHAT IT READS IS OF BULK AT MOST 1048576: true; the input reads as it did. -/
def mergeOnlyUptoRow : OpenClaim := { program := "ytfkajhppdeidjaadoor", sum := "eda509b91afd61d5d1ab1c423ef22d3943c275be20ddfcf8acd03b7bdda21ae2", func := "pollard/pollardlaw19.MergeOnly", spec := "mergeOnly", inPlace := ["internal/bytealg.CountString", "internal/bytealg.IndexByteString", "internal/bytealg.IndexString", "internal/abi.NoEscape", "internal/bytealg.MakeNoZero"], named := ["unicode/utf8.first", "unicode/utf8.acceptRanges", "internal/bytealg.MaxLen"], apart := false, laid := [("unicode/utf8.acceptRanges", laid_unicode_utf8_acceptRanges), ("unicode/utf8.first", laid_unicode_utf8_first)], narrowed := true }
def MergeOnlyUptoSaid : Prop := mergeOnlyUptoRow.holds Tryd.pinned (OpenSpec.upto mergeOnlySpec)

/-- 'pollardlaw19.MergeMuch', WHERE WHAT IT READS IS OF BULK AT MOST 1048576: true; the input reads as it did. -/
def mergeMuchUptoRow : OpenClaim := { program := "ytfkajhppdeidjaadoor", sum := "eda509b91afd61d5d1ab1c423ef22d3943c275be20ddfcf8acd03b7bdda21ae2", func := "pollard/pollardlaw19.MergeMuch", spec := "mergeMuch", inPlace := ["internal/bytealg.CountString", "internal/bytealg.IndexByteString", "internal/bytealg.IndexString", "internal/abi.NoEscape", "internal/bytealg.MakeNoZero"], named := ["unicode/utf8.first", "unicode/utf8.acceptRanges", "internal/bytealg.MaxLen"], apart := false, laid := [("unicode/utf8.acceptRanges", laid_unicode_utf8_acceptRanges), ("unicode/utf8.first", laid_unicode_utf8_first)], narrowed := true }
def MergeMuchUptoSaid : Prop := mergeMuchUptoRow.holds Tryd.pinned (OpenSpec.upto mergeMuchSpec)

end Rows
end Go.Proofs.YtfkajhppdeidjaaDoor
