/- Functions of the program as plain functions, and that each call does what they tell. Conditions: none. -/
import Derived.Test.YtjaihhgkcdnhnaaPFnCastNewx0
import Derived.Test.YtjaihhgkcdnhnaaPFnCastNewx1
import Derived.Test.YtjaihhgkcdnhnaaPFnCastNewx2
import Derived.Test.YtjaihhgkcdnhnaaPFnCastNewx3
import Derived.Test.YtjaihhgkcdnhnaaPFnCastNewx4
import Derived.Test.YtjaihhgkcdnhnaaPFnCastNewx5
import Derived.Test.YtjaihhgkcdnhnaaPFnCastNewx6
import Derived.Test.YtjaihhgkcdnhnaaPFnCastNewx7
import Derived.Test.YtjaihhgkcdnhnaaPFnCastNewx8
import Derived.Test.YtjaihhgkcdnhnaaPFnCastNewx9
import Derived.Test.YtjaihhgkcdnhnaaPFnCastNewx10
import Derived.Test.YtjaihhgkcdnhnaaPFnCastNewx11
import Derived.Test.YtjaihhgkcdnhnaaPFnCastNewx12
import Derived.Test.YtjaihhgkcdnhnaaPFnCastNewx13
import Derived.Test.YtjaihhgkcdnhnaaPFnCastNewx14
import Derived.Test.YtjaihhgkcdnhnaaPFnCastNewx15
import Derived.Test.YtjaihhgkcdnhnaaPFnCastNewx16
import Derived.Test.YtjaihhgkcdnhnaaPFnCastNewx17
import Derived.Test.YtjaihhgkcdnhnaaPFnCastNewx18
namespace Go.Proofs.Ytjaihhgkcdnhnaa.PFnCastNew
open Go.RowKit Go.Proofs.YtjaihhgkcdnhnaaW.PrintWords Go.Proofs.YtjaihhgkcdnhnaaW.PrintLast Go.Proofs.YtjaihhgkcdnhnaaW.PrintMore
set_option linter.unusedVariables false
set_option linter.unusedSimpArgs false

end Go.Proofs.Ytjaihhgkcdnhnaa.PFnCastNew
