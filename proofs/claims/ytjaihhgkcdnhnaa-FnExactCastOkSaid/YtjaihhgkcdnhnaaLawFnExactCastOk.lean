/- The law FnExactCastOk holds of every input: its row, out of the plain statement and the printed walk. Conditions: the row's own. -/
import Derived.Test.YtjaihhgkcdnhnaaRows
import Derived.Test.YtjaihhgkcdnhnaaPFnExactCastOkx6
import Derived.Test.YtjaihhgkcdnhnaaOpen
import Derived.Test.YtjaihhgkcdnhnaaPureFnExactCastOk
import Derived.WalkKit
import Derived.ProofKit
import Derived.OpenShut
import Derived.ShutString
import Derived.ChangeOld
import Derived.Below
import Derived.SizedLaws
import Derived.Carry
namespace Go.Proofs.Ytjaihhgkcdnhnaa.fnExactCastOk
open Go.ChangeShapes Go.WideShapes Go.ChangeAt Go.RowKit Go.Proofs.Ytjaihhgkcdnhnaa.PFnExactCastOk Go.Proofs.Ytjaihhgkcdnhnaa.Open Go.Proofs.YtjaihhgkcdnhnaaW.PrintWords Go.Proofs.YtjaihhgkcdnhnaaW.PrintLast
open Go.ChangeMaps (open_string shut_string)
set_option linter.unusedVariables false
set_option linter.unusedSimpArgs false
theorem own : ownKnob Try.prog.godebug = none := by kernel_rfl
theorem laidOut : laidOutB Try.prog = true := by kernel_rfl
theorem opens24 : Opens Try.prog k24 24 G24 := by
  refine Opens.struct (F := fun a : Int × Int × Int × Bool => ((Lit.int .i64 a.1).wf = true) ∧ (((Lit.int .i64 a.2.1).wf = true) ∧ (((Lit.int .i64 a.2.2.1).wf = true) ∧ (True)))) Try.underlying24 ?h ?g ?F
  case h =>
    refine OpensFields.cons (off' := 1) (F := fun a : Int => (Lit.int .i64 a).wf = true) (F' := fun a : Int × Int × Bool => ((Lit.int .i64 a.1).wf = true) ∧ (((Lit.int .i64 a.2.1).wf = true) ∧ (True))) ?_ ?_ ?_ ?_
    · exact (Opens.int Try.underlying3)
    · rfl
    · kernel_rfl
    refine OpensFields.cons (off' := 2) (F := fun a : Int => (Lit.int .i64 a).wf = true) (F' := fun a : Int × Bool => ((Lit.int .i64 a.1).wf = true) ∧ (True)) ?_ ?_ ?_ ?_
    · exact (Opens.int Try.underlying3)
    · rfl
    · kernel_rfl
    refine OpensFields.cons (off' := 3) (F := fun a : Int => (Lit.int .i64 a).wf = true) (F' := fun a : Bool => True) ?_ ?_ ?_ ?_
    · exact (Opens.int Try.underlying3)
    · rfl
    · kernel_rfl
    refine OpensFields.last ?_ ?_ ?_
    · exact (Opens.bool Try.underlying4)
    · rfl
    · kernel_rfl
  case g => exact fun a => ⟨⟨a.1, a.2.1, a.2.2.1, a.2.2.2⟩, rfl⟩
  case F => exact fun b h => h
theorem opens67 : Opens Try.prog k67 67 G67 := by
  refine Opens.struct (F := fun a : S24 × Int => (G24 a.1) ∧ ((Lit.int .i64 a.2).wf = true)) Try.underlying67 ?h ?g ?F
  case h =>
    refine OpensFields.cons (off' := 4) (F := fun a : S24 => G24 a) (F' := fun a : Int => (Lit.int .i64 a).wf = true) ?_ ?_ ?_ ?_
    · exact opens24
    · rfl
    · kernel_rfl
    refine OpensFields.last ?_ ?_ ?_
    · exact (Opens.int Try.underlying3)
    · rfl
    · kernel_rfl
  case g => exact fun a => ⟨⟨a.1, a.2⟩, rfl⟩
  case F => exact fun b h => h
set_option maxRecDepth 100000 in
theorem lifted (os : Os) (started : os.Started) (H : Type) (enc : TypeId × Value → H) :
    ReturnsInHanded {} Try.checked os 6 .any (Rows.fnExactCastOkSpec.pre6 enc Try.prog Try.f6 Rows.fnExactCastOkRow.domain false) (Rows.fnExactCastOkSpec.post enc Try.prog Try.f6 false true false false) := by
  refine returnsInHanded_of_change_sized (C := Try.checked) own started (by kernel_rfl) Try.func6
    (ChangeSpec.witness6 (enc := enc) (C := Try.checked) false ⟨#[], #[.slice none 0 0], []⟩ 8 (by kernel_rfl) (by kernel_rfl) (by kernel_rfl) (by kernel_rfl)) ?_
  intro W base args ds gs before hval0 hW hcnd hsz0 _
  have hsz : (DataW.weightsEach Try.prog (Try.f6.params.toList ++ Rows.fnExactCastOkSpec.plain.varTypes Try.prog) (ds ++ gs)).all (· ≤ reachBytes) = true := hsz0
  have hval : ∀ (j : Nat) t v, Try.f6.params[j]? = some t → args[j]? = some v → Value.okWide Try.prog W .any base t v := hval0
  have hW' := hW
  obtain ⟨p, q, hA0, hV, rfl, hfz, hnd⟩ := hW
  have hA : DataW.TrodAll enc Try.prog W 0 (fun _ => true) true Try.f6.params.toList args.toList ds p := hA0
  rw [Try.params6] at hA hval hsz
  obtain ⟨v0, vs0, d0, ds0, p0, q0, hargs, rfl, rfl, h0, r0⟩ := trodAll_cons hA
  obtain ⟨rfl, rfl, rfl⟩ := trodAll_nil r0
  obtain rfl : args = #[v0] := by cases args; simp_all
  obtain ⟨rfl, rfl⟩ := trodVars_none hV
  have k0 := h0
  have lt0 : ∀ x ∈ p0, x.block < W.heap.size := by obtain ⟨m, hm⟩ := k0; exact DataW.trod_lt m _ _ _ hm
  obtain ⟨A0, c0, l0, rfl, hc0, hr0, hm0, hw0⟩ := open_row Try.underlying44 (by kernel_rfl) opens67 (hval 0 44 v0 rfl rfl) h0
  clear hA0 hval0 hsz0 hsz
  obtain ⟨k, h⟩ := Pure.FnExactCastOk l0 hm0 hw0
  refine (laws_FnExactCastOk.calls k _ _ l0 true W hr0 hc0 h).mono fun e W' hE => ?_
  obtain ⟨he, bel⟩ := hE
  subst he
  exact ⟨_, rfl, _, _, _, [], _, [], hW', trodAll_mk1 (shut_bool Try.underlying4 _), (trodAll_cons_mk (Below.trod laidOut (by kernel_rfl) (of_decide_eq_true (by kernel_rfl)) k0 bel lt0) trodAll_mk0), rfl, bel.frame _, fun h => by cases h⟩
theorem over : Rows.fnExactCastOkRow.holds Try.pinned (OpenSpec.ofChange Rows.fnExactCastOkSpec) :=
  OpenClaim.holds_of_wide 6 Try.f6 rfl rfl rfl rfl rfl rfl rfl ⟨rfl, rfl, rfl, rfl, rfl⟩ rfl rfl rfl rfl rfl (by kernel_rfl) Try.func6 (by kernel_rfl)
    (of_decide_eq_true (by kernel_rfl)) (by unfold Func.isWrapper; first | (rw [if_pos (by decide +kernel)]; kernel_rfl) | (rw [if_neg (by decide +kernel)]; exact ⟨rfl, rfl⟩))
    (fun os started H enc _ => lifted os started H enc)
theorem proved : Rows.FnExactCastOkSaid := over
#print axioms proved
end Go.Proofs.Ytjaihhgkcdnhnaa.fnExactCastOk
namespace Go.Proofs.Ytjaihhgkcdnhnaa
/-- The row, under a short name, for the claim. -/
theorem fnExactCastOk_holds : Rows.FnExactCastOkSaid := fnExactCastOk.proved
end Go.Proofs.Ytjaihhgkcdnhnaa
