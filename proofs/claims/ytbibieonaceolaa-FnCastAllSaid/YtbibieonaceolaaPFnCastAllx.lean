/- Functions of the program as plain functions, and that each call does what they tell. Conditions: none. -/
import Derived.Test.YtbibieonaceolaaPFnCastAllx0
import Derived.Test.YtbibieonaceolaaPFnCastAllx1
import Derived.Test.YtbibieonaceolaaPFnCastAllx2
import Derived.Test.YtbibieonaceolaaPFnCastAllx3
import Derived.Test.YtbibieonaceolaaPFnCastAllx4
import Derived.Test.YtbibieonaceolaaPFnCastAllx5
import Derived.Test.YtbibieonaceolaaPFnCastAllx6
import Derived.Test.YtbibieonaceolaaPFnCastAllx7
import Derived.Test.YtbibieonaceolaaPFnCastAllx8
import Derived.Test.YtbibieonaceolaaPFnCastAllx9
import Derived.Test.YtbibieonaceolaaPFnCastAllx10
import Derived.Test.YtbibieonaceolaaPFnCastAllx11
import Derived.Test.YtbibieonaceolaaPFnCastAllx12
import Derived.Test.YtbibieonaceolaaPFnCastAllx13
import Derived.Test.YtbibieonaceolaaPFnCastAllx14
import Derived.Test.YtbibieonaceolaaPFnCastAllx15
import Derived.Test.YtbibieonaceolaaPFnCastAllx16
import Derived.Test.YtbibieonaceolaaPFnCastAllx17
import Derived.Test.YtbibieonaceolaaPFnCastAllx18
namespace Go.Proofs.Ytbibieonaceolaa.PFnCastAll
open Go.RowKit Go.Proofs.YtbibieonaceolaaW.PrintWords Go.Proofs.YtbibieonaceolaaW.PrintLast Go.Proofs.YtbibieonaceolaaW.PrintMore
attribute [local go_sem] max2_int min2_int max_two min_two max_three min_three max_four min_four
set_option linter.unusedVariables false
set_option linter.unusedSimpArgs false

end Go.Proofs.Ytbibieonaceolaa.PFnCastAll
