/- The program's functions as plain functions, and that each call comes to what these tell; written by a program of this session, some contracts by hand. Conditions: none. -/
import Derived.Test.YtbllmdanbndbkaaProg
import Derived.Below
import Derived.Deep.Draws
import Derived.Deep.AppendLies
import Derived.Maps.AppendAt
import Derived.OwnWalk
import Derived.Laws.BytesArg
import Derived.Laws.MakeOwn
import Derived.Laws.OwnMore
import Derived.Deep.OwnRows
import Derived.Tactics
import Derived.Lib.ConvBytes
import Derived.Laws.Slices
import Derived.WalkKit
import Derived.KernelRfl
import Derived.RowKit3
import Derived.Deep.LoopGhost
import Derived.Deep.QuietTactic
import Derived.BigQuiet
import Derived.WideLaws
import Derived.Deep.DeepCutAuto
import Derived.Deep.CutBlock
import Derived.Deep.RegionHeld3
import Derived.Laws.Rows
import Derived.Lib.AppendStr
import Derived.ArgAppend
import Derived.Laws.IdiomCopy
import Derived.OrdersHeld
import Derived.Laws.BitsLemmas
import Derived.RowKit
import Derived.Laws.RangeAny
import Derived.Laws.RangeString
import Derived.Lib.OthersKept
import Derived.Test.YtbllmdanbndbkaaWWords
import Derived.Test.YtbllmdanbndbkaaWLast
import Derived.Test.YtbllmdanbndbkaaWTab
import Derived.Test.YtbllmdanbndbkaaWFour
import Derived.Test.YtbllmdanbndbkaaWQPut
import Derived.Test.YtbllmdanbndbkaaWApart
import Derived.Test.YtbllmdanbndbkaaWArr
import Derived.Test.YtbllmdanbndbkaaWZeros
import Derived.Test.YtbllmdanbndbkaaWFoot
import Derived.Test.YtbllmdanbndbkaaWKept
import Derived.Test.YtbllmdanbndbkaaWShare
import Derived.Test.YtbllmdanbndbkaaWN
import Derived.Test.YtbllmdanbndbkaaWFootNe
import Derived.Test.YtbllmdanbndbkaaWAt
import Derived.Test.YtbllmdanbndbkaaWEqStruct
import Derived.Test.YtbllmdanbndbkaaWRepsOne
import Derived.Test.YtbllmdanbndbkaaWInv
import Derived.Test.YtbllmdanbndbkaaWInvWords
import Derived.Test.YtbllmdanbndbkaaWGuard
import Derived.Test.YtbllmdanbndbkaaWNEv
import Derived.Test.YtbllmdanbndbkaaWMore
namespace Go.Proofs.Ytbllmdanbndbkaa.M
open Go.RowKit Go.Proofs.YtbllmdanbndbkaaW.PrintWords Go.Proofs.YtbllmdanbndbkaaW.PrintLast Go.Proofs.YtbllmdanbndbkaaW.PrintMore
attribute [local go_sem] max2_int min2_int max_two min_two max_three min_three max_four min_four   -- for this text's walks alone
set_option linter.unusedVariables false
set_option linter.unusedSimpArgs false



def errW : Option Int → Value
  | none => .nilIface
  | some c => .iface 0 (.int .i64 c)
theorem errW_none : errW none = .nilIface := rfl
theorem errW_some (c : Int) : errW (some c) = .iface 0 (.int .i64 c) := rfl

-- the values' own types

end Go.Proofs.Ytbllmdanbndbkaa.M
