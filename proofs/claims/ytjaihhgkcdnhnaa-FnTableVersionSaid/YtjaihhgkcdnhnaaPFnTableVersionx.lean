/- Written by a program of this session (a turned copy of a tool of the kit): functions as plain functions, and that each call does what they tell. Conditions: none. -/
import Derived.Test.YtjaihhgkcdnhnaaPFnTableVersionx0
import Derived.Test.YtjaihhgkcdnhnaaPFnTableVersionx1
import Derived.Test.YtjaihhgkcdnhnaaPFnTableVersionx2
import Derived.Test.YtjaihhgkcdnhnaaPFnTableVersionx3
import Derived.Test.YtjaihhgkcdnhnaaPFnTableVersionx4
import Derived.Test.YtjaihhgkcdnhnaaPFnTableVersionx5
import Derived.Test.YtjaihhgkcdnhnaaPFnTableVersionx6
import Derived.Test.YtjaihhgkcdnhnaaPFnTableVersionx7
import Derived.Test.YtjaihhgkcdnhnaaPFnTableVersionx8
import Derived.Test.YtjaihhgkcdnhnaaPFnTableVersionx9
import Derived.Test.YtjaihhgkcdnhnaaPFnTableVersionx10
import Derived.Test.YtjaihhgkcdnhnaaPFnTableVersionx11
import Derived.Test.YtjaihhgkcdnhnaaPFnTableVersionx12
import Derived.Test.YtjaihhgkcdnhnaaPFnTableVersionx13
import Derived.Test.YtjaihhgkcdnhnaaPFnTableVersionx14
import Derived.Test.YtjaihhgkcdnhnaaPFnTableVersionx15
import Derived.Test.YtjaihhgkcdnhnaaPFnTableVersionx16
namespace Go.Proofs.Ytjaihhgkcdnhnaa.PFnTableVersion
open Go.RowKit Go.Proofs.YtjaihhgkcdnhnaaW.PrintWords Go.Proofs.YtjaihhgkcdnhnaaW.PrintLast Go.Proofs.YtjaihhgkcdnhnaaW.PrintMore
attribute [local go_sem] max2_int min2_int max_two min_two max_three min_three max_four min_four
set_option linter.unusedVariables false
set_option linter.unusedSimpArgs false

end Go.Proofs.Ytjaihhgkcdnhnaa.PFnTableVersion
