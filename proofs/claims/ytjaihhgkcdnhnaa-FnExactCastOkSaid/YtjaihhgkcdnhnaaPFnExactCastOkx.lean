/- Written by a program of this session (a turned copy of a tool of the kit): functions of the program as plain functions, and that each call does what they tell. Conditions: none. -/
import Derived.Test.YtjaihhgkcdnhnaaPFnExactCastOkx0
import Derived.Test.YtjaihhgkcdnhnaaPFnExactCastOkx1
import Derived.Test.YtjaihhgkcdnhnaaPFnExactCastOkx2
import Derived.Test.YtjaihhgkcdnhnaaPFnExactCastOkx3
import Derived.Test.YtjaihhgkcdnhnaaPFnExactCastOkx4
import Derived.Test.YtjaihhgkcdnhnaaPFnExactCastOkx5
import Derived.Test.YtjaihhgkcdnhnaaPFnExactCastOkx6
namespace Go.Proofs.Ytjaihhgkcdnhnaa.PFnExactCastOk
open Go.RowKit Go.Proofs.YtjaihhgkcdnhnaaW.PrintWords Go.Proofs.YtjaihhgkcdnhnaaW.PrintLast Go.Proofs.YtjaihhgkcdnhnaaW.PrintMore
attribute [local go_sem] max2_int min2_int max_two min_two max_three min_three max_four min_four   -- for this text's walks alone
set_option linter.unusedVariables false
set_option linter.unusedSimpArgs false

end Go.Proofs.Ytjaihhgkcdnhnaa.PFnExactCastOk
