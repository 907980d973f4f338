/- Written by a program of this session (a turned copy of a tool of the kit): functions of the program as plain functions, and that each call does what they tell. Conditions: none. -/
import Derived.Test.YtnhalkdfkpebaaaPFnExactTableOfx0
import Derived.Test.YtnhalkdfkpebaaaPFnExactTableOfx1
import Derived.Test.YtnhalkdfkpebaaaPFnExactTableOfx2
import Derived.Test.YtnhalkdfkpebaaaPFnExactTableOfx3
import Derived.Test.YtnhalkdfkpebaaaPFnExactTableOfx4
import Derived.Test.YtnhalkdfkpebaaaPFnExactTableOfx5
namespace Go.Proofs.Ytnhalkdfkpebaaa.PFnExactTableOf
open Go.RowKit Go.Proofs.YtnhalkdfkpebaaaW.PrintWords Go.Proofs.YtnhalkdfkpebaaaW.PrintLast Go.Proofs.YtnhalkdfkpebaaaW.PrintMore
attribute [local go_sem] max2_int min2_int max_two min_two max_three min_three max_four min_four   -- for this text's walks alone
set_option linter.unusedVariables false
set_option linter.unusedSimpArgs false

end Go.Proofs.Ytnhalkdfkpebaaa.PFnExactTableOf
