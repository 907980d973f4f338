/- The program's CoordOk answers as the reference's, for every coordinate. Conditions: none. -/
import Derived.Test.YtmhemakhignmhaaPFnExactCoordOkx
set_option linter.unusedVariables false
set_option linter.unusedSimpArgs false
namespace Go.Proofs.Ytmhemakhignmhaa.Pure
open Go.RowKit Go.Proofs.Ytmhemakhignmhaa.PFnExactCoordOk Go.Proofs.YtmhemakhignmhaaW.PrintWords Go.Proofs.YtmhemakhignmhaaW.PrintLast Go.Proofs.YtmhemakhignmhaaW.PrintMore
/-! ranges -/
theorem s_in (a l h : Int) : spec_l1In.f a l h = some (decide (l ≤ a) && decide (a ≤ h)) := by
  simp only [spec_l1In.f]
  by_cases h1 : a ≥ l
  · rw [if_pos h1, decide_eq_true (show l ≤ a from h1)]; rfl
  · rw [if_neg h1, decide_eq_false (show ¬ l ≤ a from h1)]; rfl
theorem i_in (a l h : Int) : impl_in.f a l h = some (decide (l ≤ a) && decide (a ≤ h)) := by
  simp only [impl_in.f]
  by_cases h1 : a ≥ l
  · rw [if_pos h1, decide_eq_true (show l ≤ a from h1)]; rfl
  · rw [if_neg h1, decide_eq_false (show ¬ l ≤ a from h1)]; rfl
theorem if_some {α : Type} (c : Bool) (x : α) (y z : Bool) : (if c = true then some y else some z : Option Bool) = some (if c = true then y else z) := by cases c <;> rfl
def coordOk (x y h e : Int) : Bool := (decide (-100000 ≤ x) && decide (x ≤ 100000)) && ((decide (-100000 ≤ y) && decide (y ≤ 100000)) && ((decide (0 ≤ h) && decide (h ≤ 100000)) && (decide (1 ≤ e) && decide (e ≤ 1500))))
theorem s_coordOk (x y h e : Int) : spec_CoordOk.f x y h e = some (coordOk x y h e) := by
  simp only [spec_CoordOk.f, s_in, Option.bind_some, coordOk]
  cases (decide (-100000 ≤ x) && decide (x ≤ 100000)) <;> cases (decide (-100000 ≤ y) && decide (y ≤ 100000)) <;> cases (decide (0 ≤ h) && decide (h ≤ 100000)) <;> simp
theorem i_coordOk (x y h e : Int) : impl_CoordOk.f x y h e = some (coordOk x y h e) := by
  simp only [impl_CoordOk.f, i_in, Option.bind_some, coordOk]
  cases (decide (-100000 ≤ x) && decide (x ≤ 100000)) <;> cases (decide (-100000 ≤ y) && decide (y ≤ 100000)) <;> cases (decide (0 ≤ h) && decide (h ≤ 100000)) <;> simp
theorem FnExactCoordOk : laws_FnExactCoordOk.Pure := by
  intro a b c d _ _ _ _
  simp only [laws_FnExactCoordOk.f, laws_toCoord.f, s_coordOk, i_coordOk, Option.bind_some, bne_self_eq_false, Bool.false_eq_true, if_false]
end Go.Proofs.Ytmhemakhignmhaa.Pure
