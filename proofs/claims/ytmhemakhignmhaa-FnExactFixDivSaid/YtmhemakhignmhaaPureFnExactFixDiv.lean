/- The program's FixDiv answers as the reference's, for all integers. Conditions: none. -/
import Derived.Test.YtmhemakhignmhaaPFnExactFixDivx1
set_option linter.unusedVariables false
set_option linter.unusedSimpArgs false
namespace Go.Proofs.Ytmhemakhignmhaa.Pure
open Go.RowKit Go.Proofs.Ytmhemakhignmhaa.PFnExactFixDiv Go.Proofs.YtmhemakhignmhaaW.PrintWords Go.Proofs.YtmhemakhignmhaaW.PrintLast Go.Proofs.YtmhemakhignmhaaW.PrintMore
/-! the clamp -/
def cl (a : Int) : Int := max (-1000000000) (min a 1000000000)
theorem cl_bd (a : Int) : -1000000000 ≤ cl a ∧ cl a ≤ 1000000000 := by unfold cl; omega
theorem cl_in {a : Int} (h : -1000000000 ≤ a) (h' : a ≤ 1000000000) : cl a = a := by unfold cl; omega
theorem s_cl (a : Int) : spec_FixClamp.f a = some (cl a) := by
  simp only [spec_FixClamp.f, spec_l1Box.f, cl]
  by_cases h1 : a < -1000000000
  · rw [if_pos h1]; simp only [Option.bind_some]; congr 1; omega
  · rw [if_neg h1]
    by_cases h2 : a > 1000000000
    · rw [if_pos h2]; simp only [Option.bind_some]; congr 1; omega
    · rw [if_neg h2]; simp only [Option.bind_some]; congr 1; omega
theorem i_cl (a : Int) : impl_FixClamp.f a = some (cl a) := by
  simp only [impl_FixClamp.f, impl_clamp.f, cl, Option.bind_some, mx, mn]
  congr 1
  split <;> split <;> omega
theorem FnExactFixDiv : laws_FnExactFixDiv.Pure := by
  intro a b _ _
  simp only [laws_FnExactFixDiv.f, spec_FixDiv.f, impl_FixDiv.f, s_cl, i_cl, Option.bind_some]
  by_cases h0 : cl b = 0
  · simp only [if_pos h0]
    by_cases h1 : cl a > 0
    · simp only [if_pos h1, Option.bind_some, if_true]
    · simp only [if_neg h1]
      by_cases h2 : cl a < 0
      · simp only [if_pos h2, Option.bind_some, if_true]
      · simp only [if_neg h2, Option.bind_some, if_true]
  · simp only [if_neg h0, Option.bind_some, if_true]
end Go.Proofs.Ytmhemakhignmhaa.Pure
