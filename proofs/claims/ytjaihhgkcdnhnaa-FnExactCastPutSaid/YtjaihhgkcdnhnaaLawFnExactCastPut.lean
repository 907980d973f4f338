/- The law FnExactCastPut holds of every input: its row, out of the plain statement and the printed walk. Conditions: the row's own. -/
import Derived.Test.YtjaihhgkcdnhnaaRows
import Derived.Test.YtjaihhgkcdnhnaaPFnExactCastPutx11
import Derived.Test.YtjaihhgkcdnhnaaOpenFnExactCastPut
import Derived.Test.YtjaihhgkcdnhnaaPureFnExactCastPut
import Derived.WalkKit
import Derived.ProofKit
import Derived.OpenShut
import Derived.ShutString
import Derived.ChangeOld
import Derived.Below
import Derived.SizedLaws
import Derived.Carry
import Derived.Test.YtjaihhgkcdnhnaaVFnExactCastPut
namespace Go.Proofs.Ytjaihhgkcdnhnaa.fnExactCastPut
open Go.ChangeShapes Go.WideShapes Go.ChangeAt Go.RowKit Go.Proofs.Ytjaihhgkcdnhnaa.PFnExactCastPut Go.Proofs.Ytjaihhgkcdnhnaa.Open Go.Proofs.YtjaihhgkcdnhnaaW.PrintWords Go.Proofs.YtjaihhgkcdnhnaaW.PrintLast
open Go.ChangeMaps (open_string shut_string)
set_option linter.unusedVariables false
set_option linter.unusedSimpArgs false
theorem own : ownKnob Try.prog.godebug = none := by kernel_rfl
theorem laidOut : laidOutB Try.prog = true := by kernel_rfl
theorem opens24 : Opens Try.prog k24 24 G24 := by
  refine Opens.struct (F := fun a : Int × Int × Int × Bool => ((Lit.int .i64 a.1).wf = true) ∧ (((Lit.int .i64 a.2.1).wf = true) ∧ (((Lit.int .i64 a.2.2.1).wf = true) ∧ (True)))) Try.underlying24 ?h ?g ?F
  case h =>
    refine OpensFields.cons (off' := 1) (F := fun a : Int => (Lit.int .i64 a).wf = true) (F' := fun a : Int × Int × Bool => ((Lit.int .i64 a.1).wf = true) ∧ (((Lit.int .i64 a.2.1).wf = true) ∧ (True))) ?_ ?_ ?_ ?_
    · exact (Opens.int Try.underlying3)
    · rfl
    · kernel_rfl
    refine OpensFields.cons (off' := 2) (F := fun a : Int => (Lit.int .i64 a).wf = true) (F' := fun a : Int × Bool => ((Lit.int .i64 a.1).wf = true) ∧ (True)) ?_ ?_ ?_ ?_
    · exact (Opens.int Try.underlying3)
    · rfl
    · kernel_rfl
    refine OpensFields.cons (off' := 3) (F := fun a : Int => (Lit.int .i64 a).wf = true) (F' := fun a : Bool => True) ?_ ?_ ?_ ?_
    · exact (Opens.int Try.underlying3)
    · rfl
    · kernel_rfl
    refine OpensFields.last ?_ ?_ ?_
    · exact (Opens.bool Try.underlying4)
    · rfl
    · kernel_rfl
  case g => exact fun a => ⟨⟨a.1, a.2.1, a.2.2.1, a.2.2.2⟩, rfl⟩
  case F => exact fun b h => h
theorem opens67 : Opens Try.prog k67 67 G67 := by
  refine Opens.struct (F := fun a : S24 × Int => (G24 a.1) ∧ ((Lit.int .i64 a.2).wf = true)) Try.underlying67 ?h ?g ?F
  case h =>
    refine OpensFields.cons (off' := 4) (F := fun a : S24 => G24 a) (F' := fun a : Int => (Lit.int .i64 a).wf = true) ?_ ?_ ?_ ?_
    · exact opens24
    · rfl
    · kernel_rfl
    refine OpensFields.last ?_ ?_ ?_
    · exact (Opens.int Try.underlying3)
    · rfl
    · kernel_rfl
  case g => exact fun a => ⟨⟨a.1, a.2⟩, rfl⟩
  case F => exact fun b h => h
set_option maxRecDepth 100000 in
theorem lifted (os : Os) (started : os.Started) (H : Type) (enc : TypeId × Value → H) :
    ReturnsInHanded {} Try.checked os 7 .any (Rows.fnExactCastPutSpec.pre6 enc Try.prog Try.f7 Rows.fnExactCastPutRow.domain false) (Rows.fnExactCastPutSpec.post enc Try.prog Try.f7 false true false false) := by
  refine returnsInHanded_of_change_sized (C := Try.checked) own started (by kernel_rfl) Try.func7
    (ChangeSpec.witness6 (enc := enc) (C := Try.checked) false ⟨#[], #[.slice none 0 0, .agg #[.int .i64 0, .int .i64 0, .int .i64 0, .bool false]], []⟩ 8 (by kernel_rfl) (by kernel_rfl) (by kernel_rfl) (by kernel_rfl)) ?_
  intro W base args ds gs before hval0 hW hcnd hsz0 _
  have hsz : (DataW.weightsEach Try.prog (Try.f7.params.toList ++ Rows.fnExactCastPutSpec.plain.varTypes Try.prog) (ds ++ gs)).all (· ≤ reachBytes) = true := hsz0
  have hval : ∀ (j : Nat) t v, Try.f7.params[j]? = some t → args[j]? = some v → Value.okWide Try.prog W .any base t v := hval0
  have hW' := hW
  obtain ⟨p, q, hA0, hV, rfl, hfz, hnd⟩ := hW
  have hA : DataW.TrodAll enc Try.prog W 0 (fun _ => true) true Try.f7.params.toList args.toList ds p := hA0
  rw [Try.params7] at hA hval hsz
  obtain ⟨v0, vs0, d0, ds0, p0, q0, hargs, rfl, rfl, h0, r0⟩ := trodAll_cons hA
  obtain ⟨v1, vs1, d1, ds1, p1, q1, rfl, rfl, rfl, h1, r1⟩ := trodAll_cons r0
  obtain ⟨rfl, rfl, rfl⟩ := trodAll_nil r1
  obtain rfl : args = #[v0, v1] := by cases args; simp_all
  obtain ⟨rfl, rfl⟩ := trodVars_none hV
  have k0 := h0
  have lt0 : ∀ x ∈ p0, x.block < W.heap.size := by obtain ⟨m, hm⟩ := k0; exact DataW.trod_lt m _ _ _ hm
  obtain ⟨A0, c0, l0, rfl, hc0, hr0, hm0, hw0⟩ := open_row Try.underlying44 (by kernel_rfl) opens67 (hval 0 44 v0 rfl rfl) h0
  have k1 := h1
  have lt1 : ∀ x ∈ p1, x.block < W.heap.size := by obtain ⟨m, hm⟩ := k1; exact DataW.trod_lt m _ _ _ hm
  obtain ⟨x1, cs1, rfl, hk1, hx1⟩ := open_agg Try.underlying24 opens24 (hval 1 24 v1 rfl rfl) h1
  obtain rfl := k24_open hk1
  clear hA0 hval0 hsz0 hsz
  obtain ⟨k, h⟩ := Pure.FnExactCastPut l0 x1.f0 x1.f1 x1.f2 x1.f3 hm0 hw0 hx1.1 hx1.2.1 hx1.2.2.1
  refine (laws_FnExactCastPut.calls k _ _ l0 x1.f0 x1.f1 x1.f2 x1.f3 true W hr0 hc0 h).mono fun e W' hE => ?_
  obtain ⟨he, bel⟩ := hE
  subst he
  exact ⟨_, rfl, _, _, _, [], _, [], hW', trodAll_mk1 (shut_bool Try.underlying4 _), (trodAll_cons_mk (Below.trod laidOut (by kernel_rfl) (of_decide_eq_true (by kernel_rfl)) k0 bel lt0) (trodAll_cons_mk (Below.trod laidOut (by kernel_rfl) (of_decide_eq_true (by kernel_rfl)) k1 bel lt1) trodAll_mk0)), rfl, bel.frame _, fun h => by cases h⟩
theorem over : Rows.fnExactCastPutRow.holds Try.pinned (OpenSpec.ofChange Rows.fnExactCastPutSpec) :=
  OpenClaim.holds_of_wide 7 Try.f7 rfl rfl rfl rfl rfl rfl rfl ⟨rfl, rfl, rfl, rfl, rfl⟩ rfl rfl rfl rfl rfl (by kernel_rfl) Try.func7 (by kernel_rfl)
    (of_decide_eq_true (by kernel_rfl)) (by unfold Func.isWrapper; first | (rw [if_pos (by decide +kernel)]; kernel_rfl) | (rw [if_neg (by decide +kernel)]; exact ⟨rfl, rfl⟩))
    (fun os started H enc _ => lifted os started H enc)
theorem proved : Rows.FnExactCastPutSaid := over
#print axioms proved
end Go.Proofs.Ytjaihhgkcdnhnaa.fnExactCastPut
namespace Go.Proofs.Ytjaihhgkcdnhnaa
/-- The row, under a short name, for the claim. -/
theorem fnExactCastPut_holds : Rows.FnExactCastPutSaid := fnExactCastPut.proved
end Go.Proofs.Ytjaihhgkcdnhnaa
