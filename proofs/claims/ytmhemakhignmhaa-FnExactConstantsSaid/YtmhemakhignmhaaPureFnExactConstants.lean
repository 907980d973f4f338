/- The constants of the program are those of the reference. Conditions: none. -/
import Derived.Test.YtmhemakhignmhaaPFnExactConstantsx1
set_option linter.unusedVariables false
set_option linter.unusedSimpArgs false
namespace Go.Proofs.Ytmhemakhignmhaa.Pure
open Go.RowKit Go.Proofs.Ytmhemakhignmhaa.PFnExactConstants Go.Proofs.YtmhemakhignmhaaW.PrintWords Go.Proofs.YtmhemakhignmhaaW.PrintLast Go.Proofs.YtmhemakhignmhaaW.PrintMore
theorem FnExactConstants : laws_FnExactConstants.Pure := by
  unfold laws_FnExactConstants.Pure laws_FnExactConstants.f
  rfl
end Go.Proofs.Ytmhemakhignmhaa.Pure
