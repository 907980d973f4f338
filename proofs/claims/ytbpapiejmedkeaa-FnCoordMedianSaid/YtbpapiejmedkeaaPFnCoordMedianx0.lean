/- Written by a program of this session (a turned copy of a tool of the kit): functions of the program as plain functions, and that each call does what they tell. Conditions: none. -/
import Derived.Test.YtbpapiejmedkeaaProg
import Derived.Below
import Derived.Deep.Draws
import Derived.Deep.AppendLies
import Derived.Maps.AppendAt
import Derived.OwnWalk
import Derived.Laws.BytesArg
import Derived.Laws.MakeOwn
import Derived.Laws.OwnMore
import Derived.Deep.OwnRows
import Derived.Lib.SliceRun
import Derived.Shelf.SlIterI.Collect
import Derived.RangeFuncBox
import Derived.RangeFuncLeaves
import Derived.OwnWalkIn
import Derived.TacticsInMore
import Derived.LoopNIn
import Derived.LoopIn
import Derived.Tactics
import Derived.Lib.ConvBytes
import Derived.Laws.Slices
import Derived.WalkKit
import Derived.KernelRfl
import Derived.RowKit3
import Derived.Deep.LoopGhost
import Derived.Deep.QuietTactic
import Derived.BigQuiet
import Derived.WideLaws
import Derived.Deep.DeepCutAuto
import Derived.Deep.CutBlock
import Derived.Deep.RegionHeld3
import Derived.Laws.Rows
import Derived.Lib.AppendStr
import Derived.ArgAppend
import Derived.Laws.IdiomCopy
import Derived.OrdersHeld
import Derived.Laws.BitsLemmas
import Derived.RowKit
import Derived.Test.YtbpapiejmedkeaaWWords
import Derived.Test.YtbpapiejmedkeaaWLast
import Derived.Test.YtbpapiejmedkeaaWTab
import Derived.Test.YtbpapiejmedkeaaWFour
import Derived.Test.YtbpapiejmedkeaaWQPut
import Derived.Test.YtbpapiejmedkeaaWApart
import Derived.Test.YtbpapiejmedkeaaWArr
import Derived.Test.YtbpapiejmedkeaaWZeros
import Derived.Test.YtbpapiejmedkeaaWFoot
import Derived.Test.YtbpapiejmedkeaaWKept
import Derived.Test.YtbpapiejmedkeaaWShare
import Derived.Test.YtbpapiejmedkeaaWN
import Derived.Test.YtbpapiejmedkeaaWFootNe
import Derived.Test.YtbpapiejmedkeaaWAt
import Derived.Test.YtbpapiejmedkeaaWEqStruct
import Derived.Test.YtbpapiejmedkeaaWRepsOne
import Derived.Test.YtbpapiejmedkeaaWInv
import Derived.Test.YtbpapiejmedkeaaWInvWords
import Derived.Test.YtbpapiejmedkeaaWGuard
import Derived.Test.YtbpapiejmedkeaaWNEv
import Derived.Test.YtbpapiejmedkeaaWMore
namespace Go.Proofs.Ytbpapiejmedkeaa.PFnCoordMedian
open Go.RowKit Go.Proofs.YtbpapiejmedkeaaW.PrintWords Go.Proofs.YtbpapiejmedkeaaW.PrintLast Go.Proofs.YtbpapiejmedkeaaW.PrintMore
attribute [local go_sem] max2_int min2_int max_two min_two max_three min_three max_four min_four   -- for this text's walks alone
set_option linter.unusedVariables false
set_option linter.unusedSimpArgs false



def errW : Option Int → Value
  | none => .nilIface
  | some c => .iface 0 (.int .i64 c)
theorem errW_none : errW none = .nilIface := rfl
theorem errW_some (c : Int) : errW (some c) = .iface 0 (.int .i64 c) := rfl

theorem info3 : (Try.prog.info? 3).map (fun i => (i.zero, i.size, i.bytes)) = some (some (.int .i64 0), 1, 8) := by kernel_rfl
theorem info5 : (Try.prog.info? 5).map (fun i => (i.zero, i.size, i.bytes)) = some (some (.int .u8 0), 1, 1) := by kernel_rfl
-- the values' own types

end Go.Proofs.Ytbpapiejmedkeaa.PFnCoordMedian
