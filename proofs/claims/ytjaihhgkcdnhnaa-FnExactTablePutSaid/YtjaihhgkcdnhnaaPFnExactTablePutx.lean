/- Written by a program of this session (a turned copy of a tool of the kit): functions of the program as plain functions, and that each call does what they tell. Conditions: none. -/
import Derived.Test.YtjaihhgkcdnhnaaPFnExactTablePutx0
import Derived.Test.YtjaihhgkcdnhnaaPFnExactTablePutx1
import Derived.Test.YtjaihhgkcdnhnaaPFnExactTablePutx2
import Derived.Test.YtjaihhgkcdnhnaaPFnExactTablePutx3
import Derived.Test.YtjaihhgkcdnhnaaPFnExactTablePutx4
import Derived.Test.YtjaihhgkcdnhnaaPFnExactTablePutx5
import Derived.Test.YtjaihhgkcdnhnaaPFnExactTablePutx6
import Derived.Test.YtjaihhgkcdnhnaaPFnExactTablePutx7
import Derived.Test.YtjaihhgkcdnhnaaPFnExactTablePutx8
import Derived.Test.YtjaihhgkcdnhnaaPFnExactTablePutx9
import Derived.Test.YtjaihhgkcdnhnaaPFnExactTablePutx10
import Derived.Test.YtjaihhgkcdnhnaaPFnExactTablePutx11
import Derived.Test.YtjaihhgkcdnhnaaPFnExactTablePutx12
namespace Go.Proofs.Ytjaihhgkcdnhnaa.PFnExactTablePut
open Go.RowKit Go.Proofs.YtjaihhgkcdnhnaaW.PrintWords Go.Proofs.YtjaihhgkcdnhnaaW.PrintLast Go.Proofs.YtjaihhgkcdnhnaaW.PrintMore
attribute [local go_sem] max2_int min2_int max_two min_two max_three min_three max_four min_four   -- for this text's walks alone
set_option linter.unusedVariables false
set_option linter.unusedSimpArgs false

end Go.Proofs.Ytjaihhgkcdnhnaa.PFnExactTablePut
