/- Written by a program of this session (a turned copy of a tool of the kit): functions of the program as plain functions, and that each call does what they tell. Conditions: none. -/
import Derived.Test.YtjaihhgkcdnhnaaPFnExactTableJoinx0
import Derived.Test.YtjaihhgkcdnhnaaPFnExactTableJoinx1
import Derived.Test.YtjaihhgkcdnhnaaPFnExactTableJoinx2
import Derived.Test.YtjaihhgkcdnhnaaPFnExactTableJoinx3
import Derived.Test.YtjaihhgkcdnhnaaPFnExactTableJoinx4
import Derived.Test.YtjaihhgkcdnhnaaPFnExactTableJoinx5
import Derived.Test.YtjaihhgkcdnhnaaPFnExactTableJoinx6
import Derived.Test.YtjaihhgkcdnhnaaPFnExactTableJoinx7
import Derived.Test.YtjaihhgkcdnhnaaPFnExactTableJoinx8
import Derived.Test.YtjaihhgkcdnhnaaPFnExactTableJoinx9
import Derived.Test.YtjaihhgkcdnhnaaPFnExactTableJoinx10
import Derived.Test.YtjaihhgkcdnhnaaPFnExactTableJoinx11
namespace Go.Proofs.Ytjaihhgkcdnhnaa.PFnExactTableJoin
open Go.RowKit Go.Proofs.YtjaihhgkcdnhnaaW.PrintWords Go.Proofs.YtjaihhgkcdnhnaaW.PrintLast Go.Proofs.YtjaihhgkcdnhnaaW.PrintMore
attribute [local go_sem] max2_int min2_int max_two min_two max_three min_three max_four min_four   -- for this text's walks alone
set_option linter.unusedVariables false
set_option linter.unusedSimpArgs false

end Go.Proofs.Ytjaihhgkcdnhnaa.PFnExactTableJoin
