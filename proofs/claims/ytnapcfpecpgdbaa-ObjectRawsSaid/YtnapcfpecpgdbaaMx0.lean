/- The program's functions as plain functions, and that each call comes to what these tell; written by a program of this session, some contracts by hand. Conditions: none. -/
import Derived.Test.YtnapcfpecpgdbaaProg
import Derived.Below
import Derived.Deep.Draws
import Derived.Deep.AppendLies
import Derived.Maps.AppendAt
import Derived.OwnWalk
import Derived.Laws.BytesArg
import Derived.Laws.MakeOwn
import Derived.Laws.OwnMore
import Derived.Deep.OwnRows
import Derived.Tactics
import Derived.Lib.ConvBytes
import Derived.Laws.Slices
import Derived.WalkKit
import Derived.KernelRfl
import Derived.RowKit3
import Derived.Deep.LoopGhost
import Derived.Deep.QuietTactic
import Derived.BigQuiet
import Derived.WideLaws
import Derived.Deep.DeepCutAuto
import Derived.Deep.CutBlock
import Derived.Deep.RegionHeld3
import Derived.Laws.Rows
import Derived.Lib.AppendStr
import Derived.ArgAppend
import Derived.Laws.IdiomCopy
import Derived.OrdersHeld
import Derived.Laws.BitsLemmas
import Derived.RowKit
import Derived.Laws.Cover1
import Derived.Test.YtnapcfpecpgdbaaShBuilderB
import Derived.Shelf.Strings.Builder1
import Derived.Lib.OthersKept
import Derived.Outline
import Derived.WalkSpells
import Derived.Great.Walk
import Derived.Laws.RangeAny
import Derived.Laws.RangeString
import Derived.Test.YtnapcfpecpgdbaaShIndex
import Derived.Deep.Slices
import Derived.Deep.WholeRow
import Derived.StillTailTactics
import Derived.Laws.CopyRow
import Derived.Deep.CutRange
import Derived.Test.YtnapcfpecpgdbaaWWords
import Derived.Test.YtnapcfpecpgdbaaWLast
import Derived.Test.YtnapcfpecpgdbaaWTab
import Derived.Test.YtnapcfpecpgdbaaWFour
import Derived.Test.YtnapcfpecpgdbaaWQPut
import Derived.Test.YtnapcfpecpgdbaaWApart
import Derived.Test.YtnapcfpecpgdbaaWArr
import Derived.Test.YtnapcfpecpgdbaaWZeros
import Derived.Test.YtnapcfpecpgdbaaWFoot
import Derived.Test.YtnapcfpecpgdbaaWKept
import Derived.Test.YtnapcfpecpgdbaaWShare
import Derived.Test.YtnapcfpecpgdbaaWN
import Derived.Test.YtnapcfpecpgdbaaWFootNe
import Derived.Test.YtnapcfpecpgdbaaWAt
import Derived.Test.YtnapcfpecpgdbaaWEqStruct
import Derived.Test.YtnapcfpecpgdbaaWRepsOne
import Derived.Test.YtnapcfpecpgdbaaWInv
import Derived.Test.YtnapcfpecpgdbaaWInvWords
import Derived.Test.YtnapcfpecpgdbaaWGuard
import Derived.Test.YtnapcfpecpgdbaaWNEv
import Derived.Test.YtnapcfpecpgdbaaWMore
namespace Go.Proofs.Ytnapcfpecpgdbaa.M
open Go.RowKit Go.Proofs.YtnapcfpecpgdbaaW.PrintWords Go.Proofs.YtnapcfpecpgdbaaW.PrintLast Go.Proofs.YtnapcfpecpgdbaaW.PrintMore
attribute [local go_sem] max2_int min2_int max_two min_two max_three min_three max_four min_four   -- for this text's walks alone
set_option linter.unusedVariables false
set_option linter.unusedSimpArgs false



def errW : Option Int → Value
  | none => .nilIface
  | some c => .iface 0 (.int .i64 c)
theorem errW_none : errW none = .nilIface := rfl
theorem errW_some (c : Int) : errW (some c) = .iface 0 (.int .i64 c) := rfl

theorem info5 : (Try.prog.info? 5).map (fun i => (i.zero, i.size, i.bytes)) = some (some (.int .u8 0), 1, 1) := by kernel_rfl
theorem info9 : (Try.prog.info? 9).map (fun i => (i.zero, i.size, i.bytes)) = some (some (.string ⟨#[]⟩), 1, 16) := by kernel_rfl
-- the values' own types

end Go.Proofs.Ytnapcfpecpgdbaa.M
