/- Written by a program of this session (a turned copy of a tool of the kit): functions of the program as plain functions, and that each call does what they tell. Conditions: none. -/
import Derived.Test.YtbibieonaceolaaPFnExactCastTakex0
import Derived.Test.YtbibieonaceolaaPFnExactCastTakex1
import Derived.Test.YtbibieonaceolaaPFnExactCastTakex2
import Derived.Test.YtbibieonaceolaaPFnExactCastTakex3
import Derived.Test.YtbibieonaceolaaPFnExactCastTakex4
import Derived.Test.YtbibieonaceolaaPFnExactCastTakex5
import Derived.Test.YtbibieonaceolaaPFnExactCastTakex6
import Derived.Test.YtbibieonaceolaaPFnExactCastTakex7
import Derived.Test.YtbibieonaceolaaPFnExactCastTakex8
import Derived.Test.YtbibieonaceolaaPFnExactCastTakex9
import Derived.Test.YtbibieonaceolaaPFnExactCastTakex10
import Derived.Test.YtbibieonaceolaaPFnExactCastTakex11
import Derived.Test.YtbibieonaceolaaPFnExactCastTakex12
import Derived.Test.YtbibieonaceolaaPFnExactCastTakex13
namespace Go.Proofs.Ytbibieonaceolaa.PFnExactCastTake
open Go.RowKit Go.Proofs.YtbibieonaceolaaW.PrintWords Go.Proofs.YtbibieonaceolaaW.PrintLast Go.Proofs.YtbibieonaceolaaW.PrintMore
attribute [local go_sem] max2_int min2_int max_two min_two max_three min_three max_four min_four   -- for this text's walks alone
set_option linter.unusedVariables false
set_option linter.unusedSimpArgs false

end Go.Proofs.Ytbibieonaceolaa.PFnExactCastTake
