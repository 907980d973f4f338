/- Written by a program of this session (a turned copy of a tool of the kit): functions of the program as plain functions, and that each call does what they tell. Conditions: none. -/
import Derived.Test.YtmhemakhignmhaaProg
import Derived.Below
import Derived.Deep.Draws
import Derived.Deep.AppendLies
import Derived.Maps.AppendAt
import Derived.OwnWalk
import Derived.Laws.BytesArg
import Derived.Laws.MakeOwn
import Derived.Laws.OwnMore
import Derived.Deep.OwnRows
import Derived.Tactics
import Derived.Lib.ConvBytes
import Derived.Laws.Slices
import Derived.WalkKit
import Derived.KernelRfl
import Derived.RowKit3
import Derived.Deep.LoopGhost
import Derived.Deep.QuietTactic
import Derived.BigQuiet
import Derived.WideLaws
import Derived.Deep.DeepCutAuto
import Derived.Deep.CutBlock
import Derived.Deep.RegionHeld3
import Derived.Laws.Rows
import Derived.Lib.AppendStr
import Derived.ArgAppend
import Derived.Laws.IdiomCopy
import Derived.OrdersHeld
import Derived.Laws.BitsLemmas
import Derived.RowKit
import Derived.Test.YtmhemakhignmhaaWWords
import Derived.Test.YtmhemakhignmhaaWLast
import Derived.Test.YtmhemakhignmhaaWTab
import Derived.Test.YtmhemakhignmhaaWFour
import Derived.Test.YtmhemakhignmhaaWQPut
import Derived.Test.YtmhemakhignmhaaWApart
import Derived.Test.YtmhemakhignmhaaWArr
import Derived.Test.YtmhemakhignmhaaWZeros
import Derived.Test.YtmhemakhignmhaaWFoot
import Derived.Test.YtmhemakhignmhaaWKept
import Derived.Test.YtmhemakhignmhaaWShare
import Derived.Test.YtmhemakhignmhaaWN
import Derived.Test.YtmhemakhignmhaaWFootNe
import Derived.Test.YtmhemakhignmhaaWAt
import Derived.Test.YtmhemakhignmhaaWEqStruct
import Derived.Test.YtmhemakhignmhaaWRepsOne
import Derived.Test.YtmhemakhignmhaaWInv
import Derived.Test.YtmhemakhignmhaaWInvWords
import Derived.Test.YtmhemakhignmhaaWGuard
import Derived.Test.YtmhemakhignmhaaWNEv
import Derived.Test.YtmhemakhignmhaaWMore
namespace Go.Proofs.Ytmhemakhignmhaa.PFnExactWordSumOf
open Go.RowKit Go.Proofs.YtmhemakhignmhaaW.PrintWords Go.Proofs.YtmhemakhignmhaaW.PrintLast Go.Proofs.YtmhemakhignmhaaW.PrintMore
attribute [local go_sem] max2_int min2_int max_two min_two max_three min_three max_four min_four   -- for this text's walks alone
set_option linter.unusedVariables false
set_option linter.unusedSimpArgs false



def errW : Option Int → Value
  | none => .nilIface
  | some c => .iface 0 (.int .i64 c)
theorem errW_none : errW none = .nilIface := rfl
theorem errW_some (c : Int) : errW (some c) = .iface 0 (.int .i64 c) := rfl

-- the values' own types

end Go.Proofs.Ytmhemakhignmhaa.PFnExactWordSumOf
