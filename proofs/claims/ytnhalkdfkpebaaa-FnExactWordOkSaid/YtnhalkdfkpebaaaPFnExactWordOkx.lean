/- Written by a program of this session (a turned copy of a tool of the kit): functions of the program as plain functions, and that each call does what they tell. Conditions: none. -/
import Derived.Test.YtnhalkdfkpebaaaPFnExactWordOkx0
import Derived.Test.YtnhalkdfkpebaaaPFnExactWordOkx1
import Derived.Test.YtnhalkdfkpebaaaPFnExactWordOkx2
import Derived.Test.YtnhalkdfkpebaaaPFnExactWordOkx3
import Derived.Test.YtnhalkdfkpebaaaPFnExactWordOkx4
import Derived.Test.YtnhalkdfkpebaaaPFnExactWordOkx5
import Derived.Test.YtnhalkdfkpebaaaPFnExactWordOkx6
import Derived.Test.YtnhalkdfkpebaaaPFnExactWordOkx7
import Derived.Test.YtnhalkdfkpebaaaPFnExactWordOkx8
import Derived.Test.YtnhalkdfkpebaaaPFnExactWordOkx9
import Derived.Test.YtnhalkdfkpebaaaPFnExactWordOkx10
namespace Go.Proofs.Ytnhalkdfkpebaaa.PFnExactWordOk
open Go.RowKit Go.Proofs.YtnhalkdfkpebaaaW.PrintWords Go.Proofs.YtnhalkdfkpebaaaW.PrintLast Go.Proofs.YtnhalkdfkpebaaaW.PrintMore
attribute [local go_sem] max2_int min2_int max_two min_two max_three min_three max_four min_four   -- for this text's walks alone
set_option linter.unusedVariables false
set_option linter.unusedSimpArgs false

end Go.Proofs.Ytnhalkdfkpebaaa.PFnExactWordOk
