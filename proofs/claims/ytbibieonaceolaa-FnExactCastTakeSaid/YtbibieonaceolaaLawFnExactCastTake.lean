/- The law FnExactCastTake holds of every input: its row, out of the plain statement and the printed walk. Conditions: the row's own. -/
import Derived.Test.YtbibieonaceolaaRows
import Derived.Test.YtbibieonaceolaaPFnExactCastTakex13
import Derived.Test.YtbibieonaceolaaOpenFnExactCastTake
import Derived.Test.YtbibieonaceolaaPureFnExactCastTake
import Derived.WalkKit
import Derived.ProofKit
import Derived.OpenShut
import Derived.ShutString
import Derived.ChangeOld
import Derived.Below
import Derived.SizedLaws
import Derived.Carry
import Derived.Test.YtbibieonaceolaaVFnExactCastTake
namespace Go.Proofs.Ytbibieonaceolaa.fnExactCastTake
open Go.ChangeShapes Go.WideShapes Go.ChangeAt Go.RowKit Go.Proofs.Ytbibieonaceolaa.PFnExactCastTake Go.Proofs.Ytbibieonaceolaa.Open Go.Proofs.YtbibieonaceolaaW.PrintWords Go.Proofs.YtbibieonaceolaaW.PrintLast
open Go.ChangeMaps (open_string shut_string)
set_option linter.unusedVariables false
set_option linter.unusedSimpArgs false
theorem own : ownKnob Try.prog.godebug = none := by kernel_rfl
theorem laidOut : laidOutB Try.prog = true := by kernel_rfl
theorem opens45 : Opens Try.prog k45 45 G45 := by
  refine Opens.struct (F := fun a : Int × Int × Int × Bool => ((Lit.int .i64 a.1).wf = true) ∧ (((Lit.int .i64 a.2.1).wf = true) ∧ (((Lit.int .i64 a.2.2.1).wf = true) ∧ (True)))) Try.underlying45 ?h ?g ?F
  case h =>
    refine OpensFields.cons (off' := 1) (F := fun a : Int => (Lit.int .i64 a).wf = true) (F' := fun a : Int × Int × Bool => ((Lit.int .i64 a.1).wf = true) ∧ (((Lit.int .i64 a.2.1).wf = true) ∧ (True))) ?_ ?_ ?_ ?_
    · exact (Opens.int Try.underlying3)
    · rfl
    · kernel_rfl
    refine OpensFields.cons (off' := 2) (F := fun a : Int => (Lit.int .i64 a).wf = true) (F' := fun a : Int × Bool => ((Lit.int .i64 a.1).wf = true) ∧ (True)) ?_ ?_ ?_ ?_
    · exact (Opens.int Try.underlying3)
    · rfl
    · kernel_rfl
    refine OpensFields.cons (off' := 3) (F := fun a : Int => (Lit.int .i64 a).wf = true) (F' := fun a : Bool => True) ?_ ?_ ?_ ?_
    · exact (Opens.int Try.underlying3)
    · rfl
    · kernel_rfl
    refine OpensFields.last ?_ ?_ ?_
    · exact (Opens.bool Try.underlying4)
    · rfl
    · kernel_rfl
  case g => exact fun a => ⟨⟨a.1, a.2.1, a.2.2.1, a.2.2.2⟩, rfl⟩
  case F => exact fun b h => h
theorem opens47 : Opens Try.prog k47 47 G47 := by
  refine Opens.struct (F := fun a : S45 × Int => (G45 a.1) ∧ ((Lit.int .i64 a.2).wf = true)) Try.underlying47 ?h ?g ?F
  case h =>
    refine OpensFields.cons (off' := 4) (F := fun a : S45 => G45 a) (F' := fun a : Int => (Lit.int .i64 a).wf = true) ?_ ?_ ?_ ?_
    · exact opens45
    · rfl
    · kernel_rfl
    refine OpensFields.last ?_ ?_ ?_
    · exact (Opens.int Try.underlying3)
    · rfl
    · kernel_rfl
  case g => exact fun a => ⟨⟨a.1, a.2⟩, rfl⟩
  case F => exact fun b h => h
set_option maxRecDepth 100000 in
theorem lifted (os : Os) (started : os.Started) (H : Type) (enc : TypeId × Value → H) :
    ReturnsInHanded {} Try.checked os 3 .any (Rows.fnExactCastTakeSpec.pre6 enc Try.prog Try.f3 Rows.fnExactCastTakeRow.domain false) (Rows.fnExactCastTakeSpec.post enc Try.prog Try.f3 false true false false) := by
  refine returnsInHanded_of_change_sized (C := Try.checked) own started (by kernel_rfl) Try.func3
    (ChangeSpec.witness6 (enc := enc) (C := Try.checked) false ⟨#[], #[.slice none 0 0, .int .i64 0], []⟩ 8 (by kernel_rfl) (by kernel_rfl) (by kernel_rfl) (by kernel_rfl)) ?_
  intro W base args ds gs before hval0 hW hcnd hsz0 _
  have hsz : (DataW.weightsEach Try.prog (Try.f3.params.toList ++ Rows.fnExactCastTakeSpec.plain.varTypes Try.prog) (ds ++ gs)).all (· ≤ reachBytes) = true := hsz0
  have hval : ∀ (j : Nat) t v, Try.f3.params[j]? = some t → args[j]? = some v → Value.okWide Try.prog W .any base t v := hval0
  have hW' := hW
  obtain ⟨p, q, hA0, hV, rfl, hfz, hnd⟩ := hW
  have hA : DataW.TrodAll enc Try.prog W 0 (fun _ => true) true Try.f3.params.toList args.toList ds p := hA0
  rw [Try.params3] at hA hval hsz
  obtain ⟨v0, vs0, d0, ds0, p0, q0, hargs, rfl, rfl, h0, r0⟩ := trodAll_cons hA
  obtain ⟨v1, vs1, d1, ds1, p1, q1, rfl, rfl, rfl, h1, r1⟩ := trodAll_cons r0
  obtain ⟨rfl, rfl, rfl⟩ := trodAll_nil r1
  obtain rfl : args = #[v0, v1] := by cases args; simp_all
  obtain ⟨rfl, rfl⟩ := trodVars_none hV
  have k0 := h0
  have lt0 : ∀ x ∈ p0, x.block < W.heap.size := by obtain ⟨m, hm⟩ := k0; exact DataW.trod_lt m _ _ _ hm
  obtain ⟨A0, c0, l0, rfl, hc0, hr0, hm0, hw0⟩ := open_row Try.underlying22 (by kernel_rfl) opens47 (hval 0 22 v0 rfl rfl) h0
  obtain ⟨a1, rfl, rfl, rfl, w1⟩ := open_int Try.underlying3 (hval 1 3 v1 rfl rfl) h1
  clear hA0 hval0 hsz0 hsz
  obtain ⟨k, h⟩ := Pure.FnExactCastTake l0 a1 hm0 hw0 w1
  refine (laws_FnExactCastTake.calls k _ _ l0 a1 true W hr0 hc0 h).mono fun e W' hE => ?_
  obtain ⟨he, bel⟩ := hE
  subst he
  exact ⟨_, rfl, _, _, _, [], _, [], hW', trodAll_mk1 (shut_bool Try.underlying4 _), (trodAll_cons_mk (Below.trod laidOut (by kernel_rfl) (of_decide_eq_true (by kernel_rfl)) k0 bel lt0) (trodAll_cons_mk (shut_int Try.underlying3 w1) trodAll_mk0)), rfl, bel.frame _, fun h => by cases h⟩
theorem over : Rows.fnExactCastTakeRow.holds Try.pinned (OpenSpec.ofChange Rows.fnExactCastTakeSpec) :=
  OpenClaim.holds_of_wide 3 Try.f3 rfl rfl rfl rfl rfl rfl rfl ⟨rfl, rfl, rfl, rfl, rfl⟩ rfl rfl rfl rfl rfl (by kernel_rfl) Try.func3 (by kernel_rfl)
    (of_decide_eq_true (by kernel_rfl)) (by unfold Func.isWrapper; first | (rw [if_pos (by decide +kernel)]; kernel_rfl) | (rw [if_neg (by decide +kernel)]; exact ⟨rfl, rfl⟩))
    (fun os started H enc _ => lifted os started H enc)
theorem proved : Rows.FnExactCastTakeSaid := over
#print axioms proved
end Go.Proofs.Ytbibieonaceolaa.fnExactCastTake
namespace Go.Proofs.Ytbibieonaceolaa
/-- The row, under a short name, for the claim. -/
theorem fnExactCastTake_holds : Rows.FnExactCastTakeSaid := fnExactCastTake.proved
end Go.Proofs.Ytbibieonaceolaa
