/- Functions of the program as plain functions, and that each call does what they tell. Conditions: none. -/
import Derived.Test.YtbibieonaceolaaPFnCastFirstx0
import Derived.Test.YtbibieonaceolaaPFnCastFirstx1
import Derived.Test.YtbibieonaceolaaPFnCastFirstx2
import Derived.Test.YtbibieonaceolaaPFnCastFirstx3
import Derived.Test.YtbibieonaceolaaPFnCastFirstx4
import Derived.Test.YtbibieonaceolaaPFnCastFirstx5
import Derived.Test.YtbibieonaceolaaPFnCastFirstx6
import Derived.Test.YtbibieonaceolaaPFnCastFirstx7
import Derived.Test.YtbibieonaceolaaPFnCastFirstx8
import Derived.Test.YtbibieonaceolaaPFnCastFirstx9
import Derived.Test.YtbibieonaceolaaPFnCastFirstx10
import Derived.Test.YtbibieonaceolaaPFnCastFirstx11
import Derived.Test.YtbibieonaceolaaPFnCastFirstx12
import Derived.Test.YtbibieonaceolaaPFnCastFirstx13
import Derived.Test.YtbibieonaceolaaPFnCastFirstx14
import Derived.Test.YtbibieonaceolaaPFnCastFirstx15
import Derived.Test.YtbibieonaceolaaPFnCastFirstx16
import Derived.Test.YtbibieonaceolaaPFnCastFirstx17
import Derived.Test.YtbibieonaceolaaPFnCastFirstx18
namespace Go.Proofs.Ytbibieonaceolaa.PFnCastFirst
open Go.RowKit Go.Proofs.YtbibieonaceolaaW.PrintWords Go.Proofs.YtbibieonaceolaaW.PrintLast Go.Proofs.YtbibieonaceolaaW.PrintMore
attribute [local go_sem] max2_int min2_int max_two min_two max_three min_three max_four min_four
set_option linter.unusedVariables false
set_option linter.unusedSimpArgs false

end Go.Proofs.Ytbibieonaceolaa.PFnCastFirst
