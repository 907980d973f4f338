/- The program's FixClamp answers as the reference's, for every integer. Conditions: none. -/
import Derived.Test.YtmhemakhignmhaaPFnExactFixClampx1
set_option linter.unusedVariables false
set_option linter.unusedSimpArgs false
namespace Go.Proofs.Ytmhemakhignmhaa.Pure
open Go.RowKit Go.Proofs.Ytmhemakhignmhaa.PFnExactFixClamp Go.Proofs.YtmhemakhignmhaaW.PrintWords Go.Proofs.YtmhemakhignmhaaW.PrintLast Go.Proofs.YtmhemakhignmhaaW.PrintMore
/-! the clamp -/
def cl (a : Int) : Int := max (-1000000000) (min a 1000000000)
theorem cl_bd (a : Int) : -1000000000 ≤ cl a ∧ cl a ≤ 1000000000 := by unfold cl; omega
theorem cl_in {a : Int} (h : -1000000000 ≤ a) (h' : a ≤ 1000000000) : cl a = a := by unfold cl; omega
theorem s_cl (a : Int) : spec_FixClamp.f a = some (cl a) := by
  simp only [spec_FixClamp.f, spec_l1Box.f, cl]
  by_cases h1 : a < -1000000000
  · rw [if_pos h1]; simp only [Option.bind_some]; congr 1; omega
  · rw [if_neg h1]
    by_cases h2 : a > 1000000000
    · rw [if_pos h2]; simp only [Option.bind_some]; congr 1; omega
    · rw [if_neg h2]; simp only [Option.bind_some]; congr 1; omega
theorem i_cl (a : Int) : impl_FixClamp.f a = some (cl a) := by
  simp only [impl_FixClamp.f, impl_clamp.f, cl, Option.bind_some, mx, mn]
  congr 1
  split <;> split <;> omega
theorem FnExactFixClamp : laws_FnExactFixClamp.Pure := by
  intro a _
  simp only [laws_FnExactFixClamp.f, s_cl, i_cl, Option.bind_some, if_true]
end Go.Proofs.Ytmhemakhignmhaa.Pure
