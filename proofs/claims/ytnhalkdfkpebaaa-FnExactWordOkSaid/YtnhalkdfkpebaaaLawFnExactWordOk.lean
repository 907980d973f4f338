/- The law FnExactWordOk holds of every input: its row, out of the plain statement and the printed walk. Conditions: the row's own. -/
import Derived.Test.YtnhalkdfkpebaaaRows
import Derived.Test.YtnhalkdfkpebaaaPFnExactWordOkx10
import Derived.Test.YtnhalkdfkpebaaaOpen
import Derived.Test.YtnhalkdfkpebaaaPureFnExactWordOk
import Derived.WalkKit
import Derived.ProofKit
import Derived.OpenShut
import Derived.ShutString
import Derived.ChangeOld
import Derived.Below
import Derived.SizedLaws
import Derived.Carry
namespace Go.Proofs.Ytnhalkdfkpebaaa.fnExactWordOk
open Go.ChangeShapes Go.WideShapes Go.ChangeAt Go.RowKit Go.Proofs.Ytnhalkdfkpebaaa.PFnExactWordOk Go.Proofs.Ytnhalkdfkpebaaa.Open Go.Proofs.YtnhalkdfkpebaaaW.PrintWords Go.Proofs.YtnhalkdfkpebaaaW.PrintLast
open Go.ChangeMaps (open_string shut_string)
set_option linter.unusedVariables false
set_option linter.unusedSimpArgs false
theorem own : ownKnob Try.prog.godebug = none := by kernel_rfl
theorem laidOut : laidOutB Try.prog = true := by kernel_rfl
theorem opens50 : Opens Try.prog k50 50 G50 := by
  refine Opens.struct (F := fun a : Int × Int × Int × Int => ((Lit.int .i64 a.1).wf = true) ∧ (((Lit.int .i64 a.2.1).wf = true) ∧ (((Lit.int .i64 a.2.2.1).wf = true) ∧ ((Lit.int .i64 a.2.2.2).wf = true)))) Try.underlying50 ?h ?g ?F
  case h =>
    refine OpensFields.cons (off' := 1) (F := fun a : Int => (Lit.int .i64 a).wf = true) (F' := fun a : Int × Int × Int => ((Lit.int .i64 a.1).wf = true) ∧ (((Lit.int .i64 a.2.1).wf = true) ∧ ((Lit.int .i64 a.2.2).wf = true))) ?_ ?_ ?_ ?_
    · exact (Opens.int Try.underlying3)
    · rfl
    · kernel_rfl
    refine OpensFields.cons (off' := 2) (F := fun a : Int => (Lit.int .i64 a).wf = true) (F' := fun a : Int × Int => ((Lit.int .i64 a.1).wf = true) ∧ ((Lit.int .i64 a.2).wf = true)) ?_ ?_ ?_ ?_
    · exact (Opens.int Try.underlying3)
    · rfl
    · kernel_rfl
    refine OpensFields.cons (off' := 3) (F := fun a : Int => (Lit.int .i64 a).wf = true) (F' := fun a : Int => (Lit.int .i64 a).wf = true) ?_ ?_ ?_ ?_
    · exact (Opens.int Try.underlying3)
    · rfl
    · kernel_rfl
    refine OpensFields.last ?_ ?_ ?_
    · exact (Opens.int Try.underlying3)
    · rfl
    · kernel_rfl
  case g => exact fun a => ⟨⟨a.1, a.2.1, a.2.2.1, a.2.2.2⟩, rfl⟩
  case F => exact fun b h => h
theorem opens30 : Opens Try.prog k30 30 G30 := by
  refine Opens.struct (F := fun a : Int × Int × Int × Bool => ((Lit.int .i64 a.1).wf = true) ∧ (((Lit.int .i64 a.2.1).wf = true) ∧ (((Lit.int .i64 a.2.2.1).wf = true) ∧ (True)))) Try.underlying30 ?h ?g ?F
  case h =>
    refine OpensFields.cons (off' := 1) (F := fun a : Int => (Lit.int .i64 a).wf = true) (F' := fun a : Int × Int × Bool => ((Lit.int .i64 a.1).wf = true) ∧ (((Lit.int .i64 a.2.1).wf = true) ∧ (True))) ?_ ?_ ?_ ?_
    · exact (Opens.int Try.underlying3)
    · rfl
    · kernel_rfl
    refine OpensFields.cons (off' := 2) (F := fun a : Int => (Lit.int .i64 a).wf = true) (F' := fun a : Int × Bool => ((Lit.int .i64 a.1).wf = true) ∧ (True)) ?_ ?_ ?_ ?_
    · exact (Opens.int Try.underlying3)
    · rfl
    · kernel_rfl
    refine OpensFields.cons (off' := 3) (F := fun a : Int => (Lit.int .i64 a).wf = true) (F' := fun a : Bool => True) ?_ ?_ ?_ ?_
    · exact (Opens.int Try.underlying3)
    · rfl
    · kernel_rfl
    refine OpensFields.last ?_ ?_ ?_
    · exact (Opens.bool Try.underlying4)
    · rfl
    · kernel_rfl
  case g => exact fun a => ⟨⟨a.1, a.2.1, a.2.2.1, a.2.2.2⟩, rfl⟩
  case F => exact fun b h => h
theorem opens52 : Opens Try.prog k52 52 G52 := by
  refine Opens.struct (F := fun a : Int × Int × Int × Int × Int × Int × S50 × (List S30) => ((Lit.int .i64 a.1).wf = true) ∧ (((Lit.int .i64 a.2.1).wf = true) ∧ (((Lit.int .i64 a.2.2.1).wf = true) ∧ (((Lit.int .i64 a.2.2.2.1).wf = true) ∧ (((Lit.int .i64 a.2.2.2.2.1).wf = true) ∧ (((Lit.int .i64 a.2.2.2.2.2.1).wf = true) ∧ ((G50 a.2.2.2.2.2.2.1) ∧ ((a.2.2.2.2.2.2.2.length ≤ maxLen ∧ ∀ y0 ∈ a.2.2.2.2.2.2.2, G30 y0))))))))) Try.underlying52 ?h ?g ?F
  case h =>
    refine OpensFields.cons (off' := 1) (F := fun a : Int => (Lit.int .i64 a).wf = true) (F' := fun a : Int × Int × Int × Int × Int × S50 × (List S30) => ((Lit.int .i64 a.1).wf = true) ∧ (((Lit.int .i64 a.2.1).wf = true) ∧ (((Lit.int .i64 a.2.2.1).wf = true) ∧ (((Lit.int .i64 a.2.2.2.1).wf = true) ∧ (((Lit.int .i64 a.2.2.2.2.1).wf = true) ∧ ((G50 a.2.2.2.2.2.1) ∧ ((a.2.2.2.2.2.2.length ≤ maxLen ∧ ∀ y0 ∈ a.2.2.2.2.2.2, G30 y0)))))))) ?_ ?_ ?_ ?_
    · exact (Opens.int Try.underlying3)
    · rfl
    · kernel_rfl
    refine OpensFields.cons (off' := 2) (F := fun a : Int => (Lit.int .i64 a).wf = true) (F' := fun a : Int × Int × Int × Int × S50 × (List S30) => ((Lit.int .i64 a.1).wf = true) ∧ (((Lit.int .i64 a.2.1).wf = true) ∧ (((Lit.int .i64 a.2.2.1).wf = true) ∧ (((Lit.int .i64 a.2.2.2.1).wf = true) ∧ ((G50 a.2.2.2.2.1) ∧ ((a.2.2.2.2.2.length ≤ maxLen ∧ ∀ y0 ∈ a.2.2.2.2.2, G30 y0))))))) ?_ ?_ ?_ ?_
    · exact (Opens.int Try.underlying3)
    · rfl
    · kernel_rfl
    refine OpensFields.cons (off' := 3) (F := fun a : Int => (Lit.int .i64 a).wf = true) (F' := fun a : Int × Int × Int × S50 × (List S30) => ((Lit.int .i64 a.1).wf = true) ∧ (((Lit.int .i64 a.2.1).wf = true) ∧ (((Lit.int .i64 a.2.2.1).wf = true) ∧ ((G50 a.2.2.2.1) ∧ ((a.2.2.2.2.length ≤ maxLen ∧ ∀ y0 ∈ a.2.2.2.2, G30 y0)))))) ?_ ?_ ?_ ?_
    · exact (Opens.int Try.underlying3)
    · rfl
    · kernel_rfl
    refine OpensFields.cons (off' := 4) (F := fun a : Int => (Lit.int .i64 a).wf = true) (F' := fun a : Int × Int × S50 × (List S30) => ((Lit.int .i64 a.1).wf = true) ∧ (((Lit.int .i64 a.2.1).wf = true) ∧ ((G50 a.2.2.1) ∧ ((a.2.2.2.length ≤ maxLen ∧ ∀ y0 ∈ a.2.2.2, G30 y0))))) ?_ ?_ ?_ ?_
    · exact (Opens.int Try.underlying3)
    · rfl
    · kernel_rfl
    refine OpensFields.cons (off' := 5) (F := fun a : Int => (Lit.int .i64 a).wf = true) (F' := fun a : Int × S50 × (List S30) => ((Lit.int .i64 a.1).wf = true) ∧ ((G50 a.2.1) ∧ ((a.2.2.length ≤ maxLen ∧ ∀ y0 ∈ a.2.2, G30 y0)))) ?_ ?_ ?_ ?_
    · exact (Opens.int Try.underlying3)
    · rfl
    · kernel_rfl
    refine OpensFields.cons (off' := 6) (F := fun a : Int => (Lit.int .i64 a).wf = true) (F' := fun a : S50 × (List S30) => (G50 a.1) ∧ ((a.2.length ≤ maxLen ∧ ∀ y0 ∈ a.2, G30 y0))) ?_ ?_ ?_ ?_
    · exact (Opens.int Try.underlying3)
    · rfl
    · kernel_rfl
    refine OpensFields.cons (off' := 10) (F := fun a : S50 => G50 a) (F' := fun a : (List S30) => (a.length ≤ maxLen ∧ ∀ y0 ∈ a, G30 y0)) ?_ ?_ ?_ ?_
    · exact opens50
    · rfl
    · kernel_rfl
    refine OpensFields.last ?_ ?_ ?_
    · exact (Opens.slice Try.underlying22 (by kernel_rfl) opens30)
    · rfl
    · kernel_rfl
  case g => exact fun a => ⟨⟨a.1, a.2.1, a.2.2.1, a.2.2.2.1, a.2.2.2.2.1, a.2.2.2.2.2.1, a.2.2.2.2.2.2.1, a.2.2.2.2.2.2.2⟩, rfl⟩
  case F => exact fun b h => h
set_option maxRecDepth 100000 in
theorem lifted (os : Os) (started : os.Started) (H : Type) (enc : TypeId × Value → H) :
    ReturnsInHanded {} Try.checked os 9 .any (Rows.fnExactWordOkSpec.pre6 enc Try.prog Try.f9 Rows.fnExactWordOkRow.domain false) (Rows.fnExactWordOkSpec.post enc Try.prog Try.f9 false true false false) := by
  refine returnsInHanded_of_change_sized (C := Try.checked) own started (by kernel_rfl) Try.func9
    (ChangeSpec.witness6 (enc := enc) (C := Try.checked) false ⟨#[], #[.agg #[.int .i64 0, .int .i64 0, .int .i64 0, .int .i64 0, .int .i64 0, .int .i64 0, .int .i64 0, .int .i64 0, .int .i64 0, .int .i64 0, .slice none 0 0]], []⟩ 8 (by kernel_rfl) (by kernel_rfl) (by kernel_rfl) (by kernel_rfl)) ?_
  intro W base args ds gs before hval0 hW hcnd hsz0 _
  have hsz : (DataW.weightsEach Try.prog (Try.f9.params.toList ++ Rows.fnExactWordOkSpec.plain.varTypes Try.prog) (ds ++ gs)).all (· ≤ reachBytes) = true := hsz0
  have hval : ∀ (j : Nat) t v, Try.f9.params[j]? = some t → args[j]? = some v → Value.okWide Try.prog W .any base t v := hval0
  have hW' := hW
  obtain ⟨p, q, hA0, hV, rfl, hfz, hnd⟩ := hW
  have hA : DataW.TrodAll enc Try.prog W 0 (fun _ => true) true Try.f9.params.toList args.toList ds p := hA0
  rw [Try.params9] at hA hval hsz
  obtain ⟨v0, vs0, d0, ds0, p0, q0, hargs, rfl, rfl, h0, r0⟩ := trodAll_cons hA
  obtain ⟨rfl, rfl, rfl⟩ := trodAll_nil r0
  obtain rfl : args = #[v0] := by cases args; simp_all
  obtain ⟨rfl, rfl⟩ := trodVars_none hV
  have k0 := h0
  have lt0 : ∀ x ∈ p0, x.block < W.heap.size := by obtain ⟨m, hm⟩ := k0; exact DataW.trod_lt m _ _ _ hm
  obtain ⟨x0, cs0, rfl, hk0, hx0⟩ := open_agg Try.underlying52 opens52 (hval 0 52 v0 rfl rfl) h0
  obtain ⟨A0_10, c0_10, rfl, hc0_10, hr0_10⟩ := k52_open hk0
  clear hA0 hval0 hsz0 hsz
  obtain ⟨k, h⟩ := Pure.FnExactWordOk x0.f0 x0.f1 x0.f2 x0.f3 x0.f4 x0.f5 x0.f6.f0 x0.f6.f1 x0.f6.f2 x0.f6.f3 x0.f7 hx0.1 hx0.2.1 hx0.2.2.1 hx0.2.2.2.1 hx0.2.2.2.2.1 hx0.2.2.2.2.2.1 hx0.2.2.2.2.2.2.1.1 hx0.2.2.2.2.2.2.1.2.1 hx0.2.2.2.2.2.2.1.2.2.1 hx0.2.2.2.2.2.2.1.2.2.2 hx0.2.2.2.2.2.2.2
  refine (laws_FnExactWordOk.calls k x0.f0 x0.f1 x0.f2 x0.f3 x0.f4 x0.f5 x0.f6.f0 x0.f6.f1 x0.f6.f2 x0.f6.f3 _ _ x0.f7 true W hr0_10 hc0_10 h).mono fun e W' hE => ?_
  obtain ⟨he, bel⟩ := hE
  subst he
  exact ⟨_, rfl, _, _, _, [], _, [], hW', trodAll_mk1 (shut_bool Try.underlying4 _), (trodAll_cons_mk (Below.trod laidOut (by kernel_rfl) (of_decide_eq_true (by kernel_rfl)) k0 bel lt0) trodAll_mk0), rfl, bel.frame _, fun h => by cases h⟩
theorem over : Rows.fnExactWordOkRow.holds Try.pinned (OpenSpec.ofChange Rows.fnExactWordOkSpec) :=
  OpenClaim.holds_of_wide 9 Try.f9 rfl rfl rfl rfl rfl rfl rfl ⟨rfl, rfl, rfl, rfl, rfl⟩ rfl rfl rfl rfl rfl (by kernel_rfl) Try.func9 (by kernel_rfl)
    (of_decide_eq_true (by kernel_rfl)) (by unfold Func.isWrapper; first | (rw [if_pos (by decide +kernel)]; kernel_rfl) | (rw [if_neg (by decide +kernel)]; exact ⟨rfl, rfl⟩))
    (fun os started H enc _ => lifted os started H enc)
theorem proved : Rows.FnExactWordOkSaid := over
#print axioms proved
end Go.Proofs.Ytnhalkdfkpebaaa.fnExactWordOk
namespace Go.Proofs.Ytnhalkdfkpebaaa
/-- The row, under a short name, for the claim. -/
theorem fnExactWordOk_holds : Rows.FnExactWordOkSaid := fnExactWordOk.proved
end Go.Proofs.Ytnhalkdfkpebaaa
