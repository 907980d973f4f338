/- Written by a program of this session (a turned copy of a tool of the kit): functions of the program as plain functions, and that each call does what they tell. Conditions: none. -/
import Derived.Test.YtbpapiejmedkeaaPFnCoordMedianx0
import Derived.Test.YtbpapiejmedkeaaPFnCoordMedianx1
import Derived.Test.YtbpapiejmedkeaaPFnCoordMedianx2
import Derived.Test.YtbpapiejmedkeaaPFnCoordMedianx3
import Derived.Test.YtbpapiejmedkeaaPFnCoordMedianx4
import Derived.Test.YtbpapiejmedkeaaPFnCoordMedianx5
namespace Go.Proofs.Ytbpapiejmedkeaa.PFnCoordMedian
open Go.RowKit Go.Proofs.YtbpapiejmedkeaaW.PrintWords Go.Proofs.YtbpapiejmedkeaaW.PrintLast Go.Proofs.YtbpapiejmedkeaaW.PrintMore
attribute [local go_sem] max2_int min2_int max_two min_two max_three min_three max_four min_four   -- for this text's walks alone
set_option linter.unusedVariables false
set_option linter.unusedSimpArgs false

end Go.Proofs.Ytbpapiejmedkeaa.PFnCoordMedian
