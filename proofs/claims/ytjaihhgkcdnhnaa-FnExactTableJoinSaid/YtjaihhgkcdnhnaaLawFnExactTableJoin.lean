/- The law FnExactTableJoin holds of every input: its row, out of the plain statement and the printed walk. Conditions: the row's own. -/
import Derived.Test.YtjaihhgkcdnhnaaRows
import Derived.Test.YtjaihhgkcdnhnaaPFnExactTableJoinx11
import Derived.Test.YtjaihhgkcdnhnaaOpenFnExactTableJoin
import Derived.Test.YtjaihhgkcdnhnaaPureFnExactTableJoin
import Derived.WalkKit
import Derived.ProofKit
import Derived.OpenShut
import Derived.ShutString
import Derived.ChangeOld
import Derived.Below
import Derived.SizedLaws
import Derived.Carry
import Derived.Test.YtjaihhgkcdnhnaaVFnExactTableJoin
namespace Go.Proofs.Ytjaihhgkcdnhnaa.fnExactTableJoin
open Go.ChangeShapes Go.WideShapes Go.ChangeAt Go.RowKit Go.Proofs.Ytjaihhgkcdnhnaa.PFnExactTableJoin Go.Proofs.Ytjaihhgkcdnhnaa.Open Go.Proofs.YtjaihhgkcdnhnaaW.PrintWords Go.Proofs.YtjaihhgkcdnhnaaW.PrintLast
open Go.ChangeMaps (open_string shut_string)
set_option linter.unusedVariables false
set_option linter.unusedSimpArgs false
theorem own : ownKnob Try.prog.godebug = none := by kernel_rfl
theorem laidOut : laidOutB Try.prog = true := by kernel_rfl
theorem opens24 : Opens Try.prog k24 24 G24 := by
  refine Opens.struct (F := fun a : Int × Int × Int × Bool => ((Lit.int .i64 a.1).wf = true) ∧ (((Lit.int .i64 a.2.1).wf = true) ∧ (((Lit.int .i64 a.2.2.1).wf = true) ∧ (True)))) Try.underlying24 ?h ?g ?F
  case h =>
    refine OpensFields.cons (off' := 1) (F := fun a : Int => (Lit.int .i64 a).wf = true) (F' := fun a : Int × Int × Bool => ((Lit.int .i64 a.1).wf = true) ∧ (((Lit.int .i64 a.2.1).wf = true) ∧ (True))) ?_ ?_ ?_ ?_
    · exact (Opens.int Try.underlying3)
    · rfl
    · kernel_rfl
    refine OpensFields.cons (off' := 2) (F := fun a : Int => (Lit.int .i64 a).wf = true) (F' := fun a : Int × Bool => ((Lit.int .i64 a.1).wf = true) ∧ (True)) ?_ ?_ ?_ ?_
    · exact (Opens.int Try.underlying3)
    · rfl
    · kernel_rfl
    refine OpensFields.cons (off' := 3) (F := fun a : Int => (Lit.int .i64 a).wf = true) (F' := fun a : Bool => True) ?_ ?_ ?_ ?_
    · exact (Opens.int Try.underlying3)
    · rfl
    · kernel_rfl
    refine OpensFields.last ?_ ?_ ?_
    · exact (Opens.bool Try.underlying4)
    · rfl
    · kernel_rfl
  case g => exact fun a => ⟨⟨a.1, a.2.1, a.2.2.1, a.2.2.2⟩, rfl⟩
  case F => exact fun b h => h
set_option maxRecDepth 100000 in
theorem lifted (os : Os) (started : os.Started) (H : Type) (enc : TypeId × Value → H) :
    ReturnsInHanded {} Try.checked os 4 .any (Rows.fnExactTableJoinSpec.pre6 enc Try.prog Try.f4 Rows.fnExactTableJoinRow.domain false) (Rows.fnExactTableJoinSpec.post enc Try.prog Try.f4 false true false false) := by
  refine returnsInHanded_of_change_sized (C := Try.checked) own started (by kernel_rfl) Try.func4
    (ChangeSpec.witness6 (enc := enc) (C := Try.checked) false ⟨#[], #[.slice none 0 0, .slice none 0 0], []⟩ 8 (by kernel_rfl) (by kernel_rfl) (by kernel_rfl) (by kernel_rfl)) ?_
  intro W base args ds gs before hval0 hW hcnd hsz0 _
  have hsz : (DataW.weightsEach Try.prog (Try.f4.params.toList ++ Rows.fnExactTableJoinSpec.plain.varTypes Try.prog) (ds ++ gs)).all (· ≤ reachBytes) = true := hsz0
  have hval : ∀ (j : Nat) t v, Try.f4.params[j]? = some t → args[j]? = some v → Value.okWide Try.prog W .any base t v := hval0
  have hW' := hW
  obtain ⟨p, q, hA0, hV, rfl, hfz, hnd⟩ := hW
  have hA : DataW.TrodAll enc Try.prog W 0 (fun _ => true) true Try.f4.params.toList args.toList ds p := hA0
  rw [Try.params4] at hA hval hsz
  obtain ⟨v0, vs0, d0, ds0, p0, q0, hargs, rfl, rfl, h0, r0⟩ := trodAll_cons hA
  obtain ⟨v1, vs1, d1, ds1, p1, q1, rfl, rfl, rfl, h1, r1⟩ := trodAll_cons r0
  obtain ⟨rfl, rfl, rfl⟩ := trodAll_nil r1
  obtain rfl : args = #[v0, v1] := by cases args; simp_all
  obtain ⟨rfl, rfl⟩ := trodVars_none hV
  have k0 := h0
  have lt0 : ∀ x ∈ p0, x.block < W.heap.size := by obtain ⟨m, hm⟩ := k0; exact DataW.trod_lt m _ _ _ hm
  obtain ⟨A0, c0, l0, rfl, hc0, hr0, hm0, hw0⟩ := open_row Try.underlying22 (by kernel_rfl) opens24 (hval 0 22 v0 rfl rfl) h0
  have k1 := h1
  have lt1 : ∀ x ∈ p1, x.block < W.heap.size := by obtain ⟨m, hm⟩ := k1; exact DataW.trod_lt m _ _ _ hm
  obtain ⟨A1, c1, l1, rfl, hc1, hr1, hm1, hw1⟩ := open_row Try.underlying22 (by kernel_rfl) opens24 (hval 1 22 v1 rfl rfl) h1
  clear hA0 hval0 hsz0 hsz
  obtain ⟨k, h⟩ := Pure.FnExactTableJoin l0 l1 hm0 hw0 hm1 hw1
  refine (laws_FnExactTableJoin.calls k _ _ l0 _ _ l1 true W hr0 hc0 hr1 hc1 h).mono fun e W' hE => ?_
  obtain ⟨he, bel⟩ := hE
  subst he
  exact ⟨_, rfl, _, _, _, [], _, [], hW', trodAll_mk1 (shut_bool Try.underlying4 _), (trodAll_cons_mk (Below.trod laidOut (by kernel_rfl) (of_decide_eq_true (by kernel_rfl)) k0 bel lt0) (trodAll_cons_mk (Below.trod laidOut (by kernel_rfl) (of_decide_eq_true (by kernel_rfl)) k1 bel lt1) trodAll_mk0)), rfl, bel.frame _, fun h => by cases h⟩
theorem over : Rows.fnExactTableJoinRow.holds Try.pinned (OpenSpec.ofChange Rows.fnExactTableJoinSpec) :=
  OpenClaim.holds_of_wide 4 Try.f4 rfl rfl rfl rfl rfl rfl rfl ⟨rfl, rfl, rfl, rfl, rfl⟩ rfl rfl rfl rfl rfl (by kernel_rfl) Try.func4 (by kernel_rfl)
    (of_decide_eq_true (by kernel_rfl)) (by unfold Func.isWrapper; first | (rw [if_pos (by decide +kernel)]; kernel_rfl) | (rw [if_neg (by decide +kernel)]; exact ⟨rfl, rfl⟩))
    (fun os started H enc _ => lifted os started H enc)
theorem proved : Rows.FnExactTableJoinSaid := over
#print axioms proved
end Go.Proofs.Ytjaihhgkcdnhnaa.fnExactTableJoin
namespace Go.Proofs.Ytjaihhgkcdnhnaa
/-- The row, under a short name, for the claim. -/
theorem fnExactTableJoin_holds : Rows.FnExactTableJoinSaid := fnExactTableJoin.proved
end Go.Proofs.Ytjaihhgkcdnhnaa
