/- Written by a program of this session (a turned copy of a tool of the kit): functions of the program as plain functions, and that each call does what they tell. Conditions: none. -/
import Derived.Test.YtahhgpblkmlhjaaPFnExactNodeNewx0
import Derived.Test.YtahhgpblkmlhjaaPFnExactNodeNewx1
import Derived.Test.YtahhgpblkmlhjaaPFnExactNodeNewx2
import Derived.Test.YtahhgpblkmlhjaaPFnExactNodeNewx3
namespace Go.Proofs.Ytahhgpblkmlhjaa.PFnExactNodeNew
open Go.RowKit Go.Proofs.YtahhgpblkmlhjaaW.PrintWords Go.Proofs.YtahhgpblkmlhjaaW.PrintLast Go.Proofs.YtahhgpblkmlhjaaW.PrintMore
attribute [local go_sem] max2_int min2_int max_two min_two max_three min_three max_four min_four   -- for this text's walks alone
set_option linter.unusedVariables false
set_option linter.unusedSimpArgs false

end Go.Proofs.Ytahhgpblkmlhjaa.PFnExactNodeNew
