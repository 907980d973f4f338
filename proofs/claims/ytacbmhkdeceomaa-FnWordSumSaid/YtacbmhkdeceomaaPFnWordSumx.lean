/- Written by a program of this session (a turned copy of a tool of the kit): functions of the program as plain functions, and that each call does what they tell. Conditions: none. -/
import Derived.Test.YtacbmhkdeceomaaPFnWordSumx0
import Derived.Test.YtacbmhkdeceomaaPFnWordSumx1
import Derived.Test.YtacbmhkdeceomaaPFnWordSumx2
namespace Go.Proofs.Ytacbmhkdeceomaa.PFnWordSum
open Go.RowKit Go.Proofs.YtacbmhkdeceomaaW.PrintWords Go.Proofs.YtacbmhkdeceomaaW.PrintLast Go.Proofs.YtacbmhkdeceomaaW.PrintMore
attribute [local go_sem] max2_int min2_int max_two min_two max_three min_three max_four min_four   -- for this text's walks alone
set_option linter.unusedVariables false
set_option linter.unusedSimpArgs false

end Go.Proofs.Ytacbmhkdeceomaa.PFnWordSum
