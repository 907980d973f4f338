/- Written by a program of this session (a turned copy of a tool of the kit): functions as plain functions, and that each call does what they tell. Conditions: none. -/
import Derived.Test.YtjaihhgkcdnhnaaPFnExactCastPutx0
import Derived.Test.YtjaihhgkcdnhnaaPFnExactCastPutx1
import Derived.Test.YtjaihhgkcdnhnaaPFnExactCastPutx2
import Derived.Test.YtjaihhgkcdnhnaaPFnExactCastPutx3
import Derived.Test.YtjaihhgkcdnhnaaPFnExactCastPutx4
import Derived.Test.YtjaihhgkcdnhnaaPFnExactCastPutx5
import Derived.Test.YtjaihhgkcdnhnaaPFnExactCastPutx6
import Derived.Test.YtjaihhgkcdnhnaaPFnExactCastPutx7
import Derived.Test.YtjaihhgkcdnhnaaPFnExactCastPutx8
import Derived.Test.YtjaihhgkcdnhnaaPFnExactCastPutx9
import Derived.Test.YtjaihhgkcdnhnaaPFnExactCastPutx10
import Derived.Test.YtjaihhgkcdnhnaaPFnExactCastPutx11
namespace Go.Proofs.Ytjaihhgkcdnhnaa.PFnExactCastPut
open Go.RowKit Go.Proofs.YtjaihhgkcdnhnaaW.PrintWords Go.Proofs.YtjaihhgkcdnhnaaW.PrintLast Go.Proofs.YtjaihhgkcdnhnaaW.PrintMore
attribute [local go_sem] max2_int min2_int max_two min_two max_three min_three max_four min_four
set_option linter.unusedVariables false
set_option linter.unusedSimpArgs false

end Go.Proofs.Ytjaihhgkcdnhnaa.PFnExactCastPut
