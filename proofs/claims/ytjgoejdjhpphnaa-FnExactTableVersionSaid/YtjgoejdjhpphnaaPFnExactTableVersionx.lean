/- Written by a program of this session (a turned copy of a tool of the kit): functions of the program as plain functions, and that each call does what they tell. Conditions: none. -/
import Derived.Test.YtjgoejdjhpphnaaPFnExactTableVersionx0
import Derived.Test.YtjgoejdjhpphnaaPFnExactTableVersionx1
import Derived.Test.YtjgoejdjhpphnaaPFnExactTableVersionx2
import Derived.Test.YtjgoejdjhpphnaaPFnExactTableVersionx3
import Derived.Test.YtjgoejdjhpphnaaPFnExactTableVersionx4
import Derived.Test.YtjgoejdjhpphnaaPFnExactTableVersionx5
namespace Go.Proofs.Ytjgoejdjhpphnaa.PFnExactTableVersion
open Go.RowKit Go.Proofs.YtjgoejdjhpphnaaW.PrintWords Go.Proofs.YtjgoejdjhpphnaaW.PrintLast Go.Proofs.YtjgoejdjhpphnaaW.PrintMore
attribute [local go_sem] max2_int min2_int max_two min_two max_three min_three max_four min_four   -- for this text's walks alone
set_option linter.unusedVariables false
set_option linter.unusedSimpArgs false

end Go.Proofs.Ytjgoejdjhpphnaa.PFnExactTableVersion
