/- The program's NodeNew answers as the reference's, for every number and either kind of node, and its answer is its own memory. Conditions: none. -/
import Derived.Test.YtahhgpblkmlhjaaPFnExactNodeNewx
set_option linter.unusedVariables false
set_option linter.unusedSimpArgs false
namespace Go.Proofs.Ytahhgpblkmlhjaa.Pure
open Go.RowKit Go.Proofs.Ytahhgpblkmlhjaa.PFnExactNodeNew Go.Proofs.YtahhgpblkmlhjaaW.PrintWords Go.Proofs.YtahhgpblkmlhjaaW.PrintLast Go.Proofs.YtahhgpblkmlhjaaW.PrintMore
theorem w64 {n : Int} (h : -9223372036854775808 ≤ n) (h' : n ≤ 9223372036854775807) : wrap64 n = n := by unfold wrap64; omega
theorem lt_ge (a b : Int) : a < b ∨ b ≤ a := by omega
theorem wN1 : wrap64 (1 + 1) = 2 := w64 (by omega) (by omega)
theorem wN2 : wrap64 (2 + 1) = 3 := w64 (by omega) (by omega)
theorem wN3 : wrap64 (3 + 1) = 4 := w64 (by omega) (by omega)
theorem wN4 : wrap64 (4 + 1) = 5 := w64 (by omega) (by omega)
theorem wN0 : wrap64 (0 + 1) = 1 := w64 (by omega) (by omega)
theorem rd1 (x : S39) : rd_T39 [x] 0 = x := rfl
theorem eqS0 (k : Nat) : laws_eqFactS.f (k + 1) [] [] = some true := by
  simp [laws_eqFactS.f, laws_eqFactS.l0]
theorem eqS1 (x : S39) (k : Nat) : laws_eqFactS.f (k + 1 + 1) [x] [x] = some true := by
  have e : laws_eqFactS.l0 (k + 1) [x] [x] 1 = some true := by simp [laws_eqFactS.l0]
  rw [laws_eqFactS.f, if_pos rfl, laws_eqFactS.l0, rd1, wN0, e]
  simp [laws_eqFact.f]
theorem mark0 (k : Nat) : laws_markFactS.f (k + 1) [] 1 = some (1, []) := by
  simp [laws_markFactS.f, laws_markFactS.l0]
theorem mark1 (x : S39) (k : Nat) : laws_markFactS.f (k + 1 + 1) [x] 1 = some (5, [⟨1, 2, 3, false⟩]) := by
  have e : ∀ y : S39, laws_markFactS.l0 (k + 1) [y] 5 1 = some (5, [y]) := fun y => by simp [laws_markFactS.l0]
  rw [laws_markFactS.f, laws_markFactS.l0]
  simp only [wN0, wN1, wN2, wN3, wN4, Option.bind_some, Int.toNat_zero, List.set_cons_zero, rd1, e]
  rw [if_pos (by simp), if_pos (by decide)]
  rfl
theorem held0 (k : Nat) : laws_heldFactS.f (k + 1) [] 1 = some 1 := by
  simp [laws_heldFactS.f, laws_heldFactS.l0]
theorem held1 (k : Nat) : laws_heldFactS.f (k + 1 + 1) [⟨1, 2, 3, false⟩] 1 = some 5 := by
  have e : laws_heldFactS.l0 (k + 1) [(⟨1, 2, 3, false⟩ : S39)] 5 1 = some 5 := by simp [laws_heldFactS.l0]
  rw [laws_heldFactS.f, laws_heldFactS.l0]
  simp only [wN0, wN1, wN2, wN3, wN4, rd1, e]
  rw [if_pos (by simp), if_pos (by decide), if_pos trivial, if_pos trivial, if_pos trivial, if_neg (by decide)]
theorem FnExactNodeNew : laws_FnExactNodeNew.Pure := by
  intro a b _
  obtain ⟨k, _⟩ : ∃ k : Nat, k = 5 := ⟨_, rfl⟩
  refine ⟨k + 1 + 1, ?_⟩
  unfold laws_FnExactNodeNew.f
  have hi : impl_isNode.f a = spec_l1In.f a 0 7 := by
    simp only [impl_isNode.f, impl_in.f, spec_l1In.f]
    by_cases h : a ≥ 0
    · rw [if_pos h]; rfl
    · rw [if_neg h]; rfl
  obtain ⟨c, hc⟩ : ∃ c, spec_l1In.f a 0 7 = some c := by
    unfold spec_l1In.f
    split <;> exact ⟨_, rfl⟩
  have hN : impl_NodeNew.f a b = spec_NodeNew.f a b := by
    simp only [impl_NodeNew.f, spec_NodeNew.f, hi, impl_CoordNew.f, spec_CoordNew.f]
  cases c
  · have hs : spec_NodeNew.f a b = some (0, false, false, false, 0, 0, 0, 0, [], [], 0, 0, 0, false, [], 0, 0, 0, 0, [], []) := by
      simp only [spec_NodeNew.f, hc, Option.bind_some]
      rw [if_neg (by decide)]
    rw [hN, hs]
    simp only [Option.bind_some, laws_eqNode.f, laws_eqItemS.f, laws_eqProbe.f, laws_eqDoubtS.f, laws_eqCoord.f, laws_eqPlaceS.f, laws_eqForeignS.f, laws_markNode.f, laws_heldNode.f, laws_markItemS.f, laws_markDoubtS.f, laws_markPlaceS.f, laws_markForeignS.f, laws_heldItemS.f, laws_heldDoubtS.f, laws_heldPlaceS.f, laws_heldForeignS.f, eqS0, mark0, held0, List.length_nil, if_true, bne_self_eq_false, Bool.false_eq_true, if_false, Int.natCast_zero, Int.cast_ofNat_Int]
    rfl
  · have hs : spec_NodeNew.f a b = some (a, true, false, b, 0, 0, 0, 0, [⟨a, 0, 1, b⟩], [], -1, 0, 0, false, [], 0, 0, 0, 1500, [], []) := by
      simp only [spec_NodeNew.f, hc, Option.bind_some, spec_CoordNew.f]
      rw [if_pos trivial]
    rw [hN, hs]
    simp only [Option.bind_some, laws_eqNode.f, laws_eqItemS.f, laws_eqProbe.f, laws_eqDoubtS.f, laws_eqCoord.f, laws_eqPlaceS.f, laws_eqForeignS.f, laws_markNode.f, laws_heldNode.f, laws_markItemS.f, laws_markDoubtS.f, laws_markPlaceS.f, laws_markForeignS.f, laws_heldItemS.f, laws_heldDoubtS.f, laws_heldPlaceS.f, laws_heldForeignS.f, eqS1, mark1, held1, List.length_nil, if_true, bne_self_eq_false, Bool.false_eq_true, if_false, Int.natCast_zero, Int.cast_ofNat_Int]
    rfl
end Go.Proofs.Ytahhgpblkmlhjaa.Pure
