/- The law FnExactCoordMove holds of every input: its row, out of the plain statement and the printed walk. Conditions: the row's own. -/
import Derived.Test.YtbpapiejmedkeaaRows
import Derived.Test.YtbpapiejmedkeaaPFnExactCoordMovex6
import Derived.Test.YtbpapiejmedkeaaOpen
import Derived.Test.YtbpapiejmedkeaaPureFnExactCoordMove
import Derived.WalkKit
import Derived.ProofKit
import Derived.OpenShut
import Derived.ShutString
import Derived.ChangeOld
import Derived.Below
import Derived.SizedLaws
import Derived.Carry
namespace Go.Proofs.Ytbpapiejmedkeaa.fnExactCoordMove
open Go.ChangeShapes Go.WideShapes Go.ChangeAt Go.RowKit Go.Proofs.Ytbpapiejmedkeaa.PFnExactCoordMove Go.Proofs.Ytbpapiejmedkeaa.Open Go.Proofs.YtbpapiejmedkeaaW.PrintWords Go.Proofs.YtbpapiejmedkeaaW.PrintLast
open Go.ChangeMaps (open_string shut_string)
set_option linter.unusedVariables false
set_option linter.unusedSimpArgs false
theorem own : ownKnob Try.prog.godebug = none := by kernel_rfl
theorem laidOut : laidOutB Try.prog = true := by kernel_rfl
theorem opens23 : Opens Try.prog k23 23 G23 := by
  refine Opens.struct (F := fun a : Int × Int × Int × Int => ((Lit.int .i64 a.1).wf = true) ∧ (((Lit.int .i64 a.2.1).wf = true) ∧ (((Lit.int .i64 a.2.2.1).wf = true) ∧ ((Lit.int .i64 a.2.2.2).wf = true)))) Try.underlying23 ?h ?g ?F
  case h =>
    refine OpensFields.cons (off' := 1) (F := fun a : Int => (Lit.int .i64 a).wf = true) (F' := fun a : Int × Int × Int => ((Lit.int .i64 a.1).wf = true) ∧ (((Lit.int .i64 a.2.1).wf = true) ∧ ((Lit.int .i64 a.2.2).wf = true))) ?_ ?_ ?_ ?_
    · exact (Opens.int Try.underlying3)
    · rfl
    · kernel_rfl
    refine OpensFields.cons (off' := 2) (F := fun a : Int => (Lit.int .i64 a).wf = true) (F' := fun a : Int × Int => ((Lit.int .i64 a.1).wf = true) ∧ ((Lit.int .i64 a.2).wf = true)) ?_ ?_ ?_ ?_
    · exact (Opens.int Try.underlying3)
    · rfl
    · kernel_rfl
    refine OpensFields.cons (off' := 3) (F := fun a : Int => (Lit.int .i64 a).wf = true) (F' := fun a : Int => (Lit.int .i64 a).wf = true) ?_ ?_ ?_ ?_
    · exact (Opens.int Try.underlying3)
    · rfl
    · kernel_rfl
    refine OpensFields.last ?_ ?_ ?_
    · exact (Opens.int Try.underlying3)
    · rfl
    · kernel_rfl
  case g => exact fun a => ⟨⟨a.1, a.2.1, a.2.2.1, a.2.2.2⟩, rfl⟩
  case F => exact fun b h => h
set_option maxRecDepth 100000 in
theorem lifted (os : Os) (started : os.Started) (H : Type) (enc : TypeId × Value → H) :
    ReturnsInHanded {} Try.checked os 6 .any (Rows.fnExactCoordMoveSpec.pre6 enc Try.prog Try.f6 Rows.fnExactCoordMoveRow.domain false) (Rows.fnExactCoordMoveSpec.post enc Try.prog Try.f6 false true false false) := by
  refine returnsInHanded_of_change_sized (C := Try.checked) own started (by kernel_rfl) Try.func6
    (ChangeSpec.witness6 (enc := enc) (C := Try.checked) false ⟨#[], #[.agg #[.int .i64 0, .int .i64 0, .int .i64 0, .int .i64 0], .agg #[.int .i64 0, .int .i64 0, .int .i64 0, .int .i64 0], .int .i64 0, .int .i64 0], []⟩ 8 (by kernel_rfl) (by kernel_rfl) (by kernel_rfl) (by kernel_rfl)) ?_
  intro W base args ds gs before hval0 hW hcnd hsz0 _
  have hsz : (DataW.weightsEach Try.prog (Try.f6.params.toList ++ Rows.fnExactCoordMoveSpec.plain.varTypes Try.prog) (ds ++ gs)).all (· ≤ reachBytes) = true := hsz0
  have hval : ∀ (j : Nat) t v, Try.f6.params[j]? = some t → args[j]? = some v → Value.okWide Try.prog W .any base t v := hval0
  have hW' := hW
  obtain ⟨p, q, hA0, hV, rfl, hfz, hnd⟩ := hW
  have hA : DataW.TrodAll enc Try.prog W 0 (fun _ => true) true Try.f6.params.toList args.toList ds p := hA0
  rw [Try.params6] at hA hval hsz
  obtain ⟨v0, vs0, d0, ds0, p0, q0, hargs, rfl, rfl, h0, r0⟩ := trodAll_cons hA
  obtain ⟨v1, vs1, d1, ds1, p1, q1, rfl, rfl, rfl, h1, r1⟩ := trodAll_cons r0
  obtain ⟨v2, vs2, d2, ds2, p2, q2, rfl, rfl, rfl, h2, r2⟩ := trodAll_cons r1
  obtain ⟨v3, vs3, d3, ds3, p3, q3, rfl, rfl, rfl, h3, r3⟩ := trodAll_cons r2
  obtain ⟨rfl, rfl, rfl⟩ := trodAll_nil r3
  obtain rfl : args = #[v0, v1, v2, v3] := by cases args; simp_all
  obtain ⟨rfl, rfl⟩ := trodVars_none hV
  have k0 := h0
  have lt0 : ∀ x ∈ p0, x.block < W.heap.size := by obtain ⟨m, hm⟩ := k0; exact DataW.trod_lt m _ _ _ hm
  obtain ⟨x0, cs0, rfl, hk0, hx0⟩ := open_agg Try.underlying23 opens23 (hval 0 23 v0 rfl rfl) h0
  obtain rfl := k23_open hk0
  have k1 := h1
  have lt1 : ∀ x ∈ p1, x.block < W.heap.size := by obtain ⟨m, hm⟩ := k1; exact DataW.trod_lt m _ _ _ hm
  obtain ⟨x1, cs1, rfl, hk1, hx1⟩ := open_agg Try.underlying23 opens23 (hval 1 23 v1 rfl rfl) h1
  obtain rfl := k23_open hk1
  obtain ⟨a2, rfl, rfl, rfl, w2⟩ := open_int Try.underlying3 (hval 2 3 v2 rfl rfl) h2
  obtain ⟨a3, rfl, rfl, rfl, w3⟩ := open_int Try.underlying3 (hval 3 3 v3 rfl rfl) h3
  clear hA0 hval0 hsz0 hsz
  obtain ⟨k, h⟩ := Pure.FnExactCoordMove x0.f0 x0.f1 x0.f2 x0.f3 x1.f0 x1.f1 x1.f2 x1.f3 a2 a3 hx0.1 hx0.2.1 hx0.2.2.1 hx0.2.2.2 hx1.1 hx1.2.1 hx1.2.2.1 hx1.2.2.2 w2 w3
  refine (laws_FnExactCoordMove.calls k x0.f0 x0.f1 x0.f2 x0.f3 x1.f0 x1.f1 x1.f2 x1.f3 a2 a3 true W  h).mono fun e W' hE => ?_
  obtain ⟨he, bel⟩ := hE
  subst he
  exact ⟨_, rfl, _, _, _, [], _, [], hW', trodAll_mk1 (shut_bool Try.underlying4 _), (trodAll_cons_mk (Below.trod laidOut (by kernel_rfl) (of_decide_eq_true (by kernel_rfl)) k0 bel lt0) (trodAll_cons_mk (Below.trod laidOut (by kernel_rfl) (of_decide_eq_true (by kernel_rfl)) k1 bel lt1) (trodAll_cons_mk (shut_int Try.underlying3 w2) (trodAll_cons_mk (shut_int Try.underlying3 w3) trodAll_mk0)))), rfl, bel.frame _, fun h => by cases h⟩
theorem over : Rows.fnExactCoordMoveRow.holds Try.pinned (OpenSpec.ofChange Rows.fnExactCoordMoveSpec) :=
  OpenClaim.holds_of_wide 6 Try.f6 rfl rfl rfl rfl rfl rfl rfl ⟨rfl, rfl, rfl, rfl, rfl⟩ rfl rfl rfl rfl rfl (by kernel_rfl) Try.func6 (by kernel_rfl)
    (of_decide_eq_true (by kernel_rfl)) (by unfold Func.isWrapper; first | (rw [if_pos (by decide +kernel)]; kernel_rfl) | (rw [if_neg (by decide +kernel)]; exact ⟨rfl, rfl⟩))
    (fun os started H enc _ => lifted os started H enc)
theorem proved : Rows.FnExactCoordMoveSaid := over
#print axioms proved
end Go.Proofs.Ytbpapiejmedkeaa.fnExactCoordMove
namespace Go.Proofs.Ytbpapiejmedkeaa
/-- The row, under a short name, for the claim. -/
theorem fnExactCoordMove_holds : Rows.FnExactCoordMoveSaid := fnExactCoordMove.proved
end Go.Proofs.Ytbpapiejmedkeaa
