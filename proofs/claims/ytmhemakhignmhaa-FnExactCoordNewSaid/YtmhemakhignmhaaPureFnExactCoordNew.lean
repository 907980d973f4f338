/- The program's CoordNew answers as the reference's. Conditions: none. -/
import Derived.Test.YtmhemakhignmhaaPFnExactCoordNewx1
set_option linter.unusedVariables false
set_option linter.unusedSimpArgs false
namespace Go.Proofs.Ytmhemakhignmhaa.Pure
open Go.RowKit Go.Proofs.Ytmhemakhignmhaa.PFnExactCoordNew Go.Proofs.YtmhemakhignmhaaW.PrintWords Go.Proofs.YtmhemakhignmhaaW.PrintLast Go.Proofs.YtmhemakhignmhaaW.PrintMore
theorem FnExactCoordNew : laws_FnExactCoordNew.Pure := by
  unfold laws_FnExactCoordNew.Pure
  rfl
end Go.Proofs.Ytmhemakhignmhaa.Pure
