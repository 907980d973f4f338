/- Written by a program of this session (a turned copy of a tool of the kit): functions of the program as plain functions, and that each call does what they tell. Conditions: none. -/
import Derived.Test.YtacbmhkdeceomaaProg
import Derived.Below
import Derived.Deep.Draws
import Derived.Deep.AppendLies
import Derived.Maps.AppendAt
import Derived.OwnWalk
import Derived.Laws.BytesArg
import Derived.Laws.MakeOwn
import Derived.Laws.OwnMore
import Derived.Deep.OwnRows
import Derived.Tactics
import Derived.Lib.ConvBytes
import Derived.Laws.Slices
import Derived.WalkKit
import Derived.KernelRfl
import Derived.RowKit3
import Derived.Deep.LoopGhost
import Derived.Deep.QuietTactic
import Derived.BigQuiet
import Derived.WideLaws
import Derived.Deep.DeepCutAuto
import Derived.Deep.CutBlock
import Derived.Deep.RegionHeld3
import Derived.Laws.Rows
import Derived.Lib.AppendStr
import Derived.ArgAppend
import Derived.Laws.IdiomCopy
import Derived.OrdersHeld
import Derived.Laws.BitsLemmas
import Derived.RowKit
import Derived.Test.YtacbmhkdeceomaaWWords
import Derived.Test.YtacbmhkdeceomaaWLast
import Derived.Test.YtacbmhkdeceomaaWTab
import Derived.Test.YtacbmhkdeceomaaWFour
import Derived.Test.YtacbmhkdeceomaaWQPut
import Derived.Test.YtacbmhkdeceomaaWApart
import Derived.Test.YtacbmhkdeceomaaWArr
import Derived.Test.YtacbmhkdeceomaaWZeros
import Derived.Test.YtacbmhkdeceomaaWFoot
import Derived.Test.YtacbmhkdeceomaaWKept
import Derived.Test.YtacbmhkdeceomaaWShare
import Derived.Test.YtacbmhkdeceomaaWN
import Derived.Test.YtacbmhkdeceomaaWFootNe
import Derived.Test.YtacbmhkdeceomaaWAt
import Derived.Test.YtacbmhkdeceomaaWEqStruct
import Derived.Test.YtacbmhkdeceomaaWRepsOne
import Derived.Test.YtacbmhkdeceomaaWInv
import Derived.Test.YtacbmhkdeceomaaWInvWords
import Derived.Test.YtacbmhkdeceomaaWGuard
import Derived.Test.YtacbmhkdeceomaaWNEv
import Derived.Test.YtacbmhkdeceomaaWMore
namespace Go.Proofs.Ytacbmhkdeceomaa.PFnWordSum
open Go.RowKit Go.Proofs.YtacbmhkdeceomaaW.PrintWords Go.Proofs.YtacbmhkdeceomaaW.PrintLast Go.Proofs.YtacbmhkdeceomaaW.PrintMore
attribute [local go_sem] max2_int min2_int max_two min_two max_three min_three max_four min_four   -- for this text's walks alone
set_option linter.unusedVariables false
set_option linter.unusedSimpArgs false



def errW : Option Int → Value
  | none => .nilIface
  | some c => .iface 0 (.int .i64 c)
theorem errW_none : errW none = .nilIface := rfl
theorem errW_some (c : Int) : errW (some c) = .iface 0 (.int .i64 c) := rfl

theorem info5 : (Try.prog.info? 5).map (fun i => (i.zero, i.size, i.bytes)) = some (some (.int .u8 0), 1, 1) := by kernel_rfl
theorem info9 : (Try.prog.info? 9).map (fun i => (i.zero, i.size, i.bytes)) = some (some (.string ⟨#[]⟩), 1, 16) := by kernel_rfl
-- the values' own types

end Go.Proofs.Ytacbmhkdeceomaa.PFnWordSum
