/- Functions of the program as plain functions, and that each call does what they tell. Conditions: none. -/
import Derived.Test.YtjaihhgkcdnhnaaPFnCastKeepx0
import Derived.Test.YtjaihhgkcdnhnaaPFnCastKeepx1
import Derived.Test.YtjaihhgkcdnhnaaPFnCastKeepx2
import Derived.Test.YtjaihhgkcdnhnaaPFnCastKeepx3
import Derived.Test.YtjaihhgkcdnhnaaPFnCastKeepx4
import Derived.Test.YtjaihhgkcdnhnaaPFnCastKeepx5
import Derived.Test.YtjaihhgkcdnhnaaPFnCastKeepx6
import Derived.Test.YtjaihhgkcdnhnaaPFnCastKeepx7
import Derived.Test.YtjaihhgkcdnhnaaPFnCastKeepx8
import Derived.Test.YtjaihhgkcdnhnaaPFnCastKeepx9
import Derived.Test.YtjaihhgkcdnhnaaPFnCastKeepx10
import Derived.Test.YtjaihhgkcdnhnaaPFnCastKeepx11
import Derived.Test.YtjaihhgkcdnhnaaPFnCastKeepx12
import Derived.Test.YtjaihhgkcdnhnaaPFnCastKeepx13
import Derived.Test.YtjaihhgkcdnhnaaPFnCastKeepx14
import Derived.Test.YtjaihhgkcdnhnaaPFnCastKeepx15
import Derived.Test.YtjaihhgkcdnhnaaPFnCastKeepx16
namespace Go.Proofs.Ytjaihhgkcdnhnaa.PFnCastKeep
open Go.RowKit Go.Proofs.YtjaihhgkcdnhnaaW.PrintWords Go.Proofs.YtjaihhgkcdnhnaaW.PrintLast Go.Proofs.YtjaihhgkcdnhnaaW.PrintMore
attribute [local go_sem] max2_int min2_int max_two min_two max_three min_three max_four min_four
set_option linter.unusedVariables false
set_option linter.unusedSimpArgs false

end Go.Proofs.Ytjaihhgkcdnhnaa.PFnCastKeep
