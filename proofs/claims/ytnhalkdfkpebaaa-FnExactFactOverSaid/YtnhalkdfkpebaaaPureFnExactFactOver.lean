/- The program's FactOver answers as the reference's, for all facts. Conditions: none. -/
import Derived.Test.YtnhalkdfkpebaaaPFnExactFactOverx
set_option linter.unusedVariables false
set_option linter.unusedSimpArgs false
namespace Go.Proofs.Ytnhalkdfkpebaaa.Pure
open Go.RowKit Go.Proofs.Ytnhalkdfkpebaaa.PFnExactFactOver Go.Proofs.YtnhalkdfkpebaaaW.PrintWords Go.Proofs.YtnhalkdfkpebaaaW.PrintLast Go.Proofs.YtnhalkdfkpebaaaW.PrintMore
theorem w64 {n : Int} (h : -9223372036854775808 ≤ n) (h' : n ≤ 9223372036854775807) : wrap64 n = n := by unfold wrap64; omega
theorem lt_ge (a b : Int) : a < b ∨ b ≤ a := by omega
/-! ranges -/
theorem s_in (a l h : Int) : spec_l1In.f a l h = some (decide (l ≤ a) && decide (a ≤ h)) := by
  simp only [spec_l1In.f]
  by_cases h1 : a ≥ l
  · rw [if_pos h1, decide_eq_true (show l ≤ a from h1)]; rfl
  · rw [if_neg h1, decide_eq_false (show ¬ l ≤ a from h1)]; rfl
theorem i_in (a l h : Int) : impl_in.f a l h = some (decide (l ≤ a) && decide (a ≤ h)) := by
  simp only [impl_in.f]
  by_cases h1 : a ≥ l
  · rw [if_pos h1, decide_eq_true (show l ≤ a from h1)]; rfl
  · rw [if_neg h1, decide_eq_false (show ¬ l ≤ a from h1)]; rfl
theorem if_some {α : Type} (c : Bool) (x : α) (y z : Bool) : (if c = true then some y else some z : Option Bool) = some (if c = true then y else z) := by cases c <;> rfl
def inB (a l h : Int) : Bool := decide (l ≤ a) && decide (a ≤ h)
def factOk (n i s : Int) : Bool := inB n 0 7 && (inB i 0 999 && inB s 1 4)
theorem s_factOk (a b c : Int) (d : Bool) : spec_FactOk.f a b c d = some (factOk a b c) := by
  simp only [spec_FactOk.f, s_in, Option.bind_some, factOk, inB]
  cases (decide (0 ≤ a) && decide (a ≤ 7)) <;> cases (decide (0 ≤ b) && decide (b ≤ 999)) <;> simp
theorem i_factOk (a b c : Int) (d : Bool) : impl_FactOk.f a b c d = some (factOk a b c) := by
  simp only [impl_FactOk.f, impl_isNode.f, i_in, Option.bind_some, factOk, inB]
  cases (decide (0 ≤ a) && decide (a ≤ 7)) <;> cases (decide (0 ≤ b) && decide (b ≤ 999)) <;> simp
/-! which fact overrides which -/
def cmpI (a b : Int) : Int := if a < b then -1 else if a > b then 1 else 0
theorem cmp_eq (a b : Int) : cmp_Compare_int.f a b = some (cmpI a b) := by
  simp only [cmp_Compare_int.f, cmp_isNaN_int.f, Option.bind_some, bne_self_eq_false, Bool.false_eq_true, if_false, cmpI]
  by_cases h : a < b
  · rw [if_pos h, if_pos h]
  · rw [if_neg h, if_neg h]
    by_cases h2 : a > b
    · rw [if_pos h2, if_pos h2]
    · rw [if_neg h2, if_neg h2]
theorem or4 (a b c d : Int) (k : Nat) (hk : 5 ≤ k) : cmp_Or_int.f k [a, b, c, d] = some (if a = 0 then (if b = 0 then (if c = 0 then d else c) else b) else a) := by
  obtain ⟨k, rfl⟩ : ∃ m, k = m + 5 := ⟨k - 5, by omega⟩
  have e0 : wrap64 (0 + 1) = 1 := w64 (by omega) (by omega)
  have e1 : wrap64 (1 + 1) = 2 := w64 (by omega) (by omega)
  have e2 : wrap64 (2 + 1) = 3 := w64 (by omega) (by omega)
  have e3 : wrap64 (3 + 1) = 4 := w64 (by omega) (by omega)
  have r0 : rd [a, b, c, d] 0 = a := rfl
  have r1 : rd [a, b, c, d] 1 = b := rfl
  have r2 : rd [a, b, c, d] 2 = c := rfl
  have r3 : rd [a, b, c, d] 3 = d := rfl
  have hl : (([a, b, c, d] : List Int).length : Int) = 4 := rfl
  simp only [cmp_Or_int.f, cmp_Or_int.l0, hl, r0, e0]
  rw [if_pos (by decide), if_pos (by decide), if_pos (by decide)]
  by_cases ha : a = 0
  · rw [if_pos ha, if_pos ha]
    simp only [r1, e1]
    rw [if_pos (by decide), if_pos (by decide), if_pos (by decide)]
    by_cases hb : b = 0
    · rw [if_pos hb, if_pos hb]
      simp only [r2, e2]
      rw [if_pos (by decide), if_pos (by decide), if_pos (by decide)]
      by_cases hc : c = 0
      · rw [if_pos hc, if_pos hc]
        simp only [r3, e3]
        rw [if_pos (by decide), if_pos (by decide), if_pos (by decide)]
        by_cases hd : d = 0
        · rw [if_pos hd, if_neg (by decide), hd]
        · rw [if_neg hd]
      · rw [if_neg hc, if_neg hc]
    · rw [if_neg hb, if_neg hb]
  · rw [if_neg ha, if_neg ha]
def gateI (f g : Bool) : Int := if (f && !g) = true then 1 else if (g && !f) = true then -1 else 0
def cmpF (n i s : Int) (f : Bool) (n' i' s' : Int) (g : Bool) : Int := if cmpI n n' = 0 then (if cmpI i i' = 0 then (if cmpI s s' = 0 then gateI f g else cmpI s s') else cmpI i i') else cmpI n n'
theorem compare_eq (n i s : Int) (f : Bool) (n' i' s' : Int) (g : Bool) (k : Nat) (hk : 8 ≤ k) : impl_Fact_compare.f k n i s f n' i' s' g = some (cmpF n i s f n' i' s' g) := by
  obtain ⟨k, rfl⟩ : ∃ m, k = m + 2 := ⟨k - 2, by omega⟩
  have hj : ∀ x, impl_Fact_compare.j1 (k + 1) x n i s f n' i' s' g = some (if cmpI n n' = 0 then (if cmpI i i' = 0 then (if cmpI s s' = 0 then x else cmpI s s') else cmpI i i') else cmpI n n') := by
    intro x
    simp only [impl_Fact_compare.j1, cmp_eq, Option.bind_some, or4 _ _ _ _ k (by omega)]
  simp only [impl_Fact_compare.f, impl_Fact_compare.j0, hj, cmpF]
  cases f <;> cases g <;> rfl
def overB (i s : Int) (f : Bool) (i' s' : Int) (g : Bool) : Bool := if i = i' then (if s = s' then f && !g else decide (s > s')) else decide (i > i')
theorem cmpI_zero (a b : Int) : cmpI a b = 0 ↔ a = b := by
  unfold cmpI
  split
  · omega
  · split <;> omega
theorem cmpI_pos (a b : Int) : (decide (cmpI a b > 0)) = decide (a > b) := by
  unfold cmpI
  split
  · rw [decide_eq_false (by omega), decide_eq_false (by omega)]
  · split
    · rw [decide_eq_true (by omega), decide_eq_true (by omega)]
    · rw [decide_eq_false (by omega), decide_eq_false (by omega)]
theorem cmpF_pos (n i s : Int) (f : Bool) (i' s' : Int) (g : Bool) : decide (cmpF n i s f n i' s' g > 0) = overB i s f i' s' g := by
  unfold cmpF overB
  rw [if_pos ((cmpI_zero _ _).mpr rfl)]
  by_cases h1 : i = i'
  · rw [if_pos ((cmpI_zero _ _).mpr h1), if_pos h1]
    by_cases h2 : s = s'
    · rw [if_pos ((cmpI_zero _ _).mpr h2), if_pos h2]
      cases f <;> cases g <;> rfl
    · rw [if_neg (fun h => h2 ((cmpI_zero _ _).mp h)), if_neg h2, cmpI_pos]
  · rw [if_neg (fun h => h1 ((cmpI_zero _ _).mp h)), if_neg h1, cmpI_pos]
def factOver (n i s : Int) (f : Bool) (n' i' s' : Int) (g : Bool) : Bool := factOk n i s && (factOk n' i' s' && (decide (n = n') && overB i s f i' s' g))
theorem s_l3Over (n i s : Int) (f : Bool) (n' i' s' : Int) (g : Bool) : spec_l3Over.f n i s f n' i' s' g = some (overB i s f i' s' g) := by
  simp only [spec_l3Over.f, overB]
  by_cases h1 : i = i'
  · rw [if_pos h1, if_pos h1]
    by_cases h2 : s = s'
    · rw [if_pos h2, if_pos h2]
      cases f <;> rfl
    · rw [if_neg h2, if_neg h2]
  · rw [if_neg h1, if_neg h1]
theorem s_over (n i s : Int) (f : Bool) (n' i' s' : Int) (g : Bool) : spec_FactOver.f n i s f n' i' s' g = some (factOver n i s f n' i' s' g) := by
  simp only [spec_FactOver.f, s_factOk, s_l3Over, Option.bind_some, factOver]
  cases factOk n i s
  · rfl
  · cases factOk n' i' s'
    · rfl
    · by_cases h : n = n'
      · rw [if_pos rfl, if_pos rfl, if_pos h, decide_eq_true h]; rfl
      · rw [if_pos rfl, if_pos rfl, if_neg h, decide_eq_false h]; rfl
theorem i_over (n i s : Int) (f : Bool) (n' i' s' : Int) (g : Bool) (k : Nat) (hk : 8 ≤ k) : impl_FactOver.f k n i s f n' i' s' g = some (factOver n i s f n' i' s' g) := by
  simp only [impl_FactOver.f, i_factOk, compare_eq _ _ _ _ _ _ _ _ k hk, Option.bind_some, factOver]
  cases factOk n i s
  · rfl
  · cases factOk n' i' s'
    · rfl
    · by_cases h : n = n'
      · subst h
        rw [if_pos rfl, if_pos rfl, if_pos rfl, decide_eq_true rfl, cmpF_pos]; rfl
      · rw [if_pos rfl, if_pos rfl, if_neg h, decide_eq_false h]; rfl
theorem FnExactFactOver : laws_FnExactFactOver.Pure := by
  intro n i s f n' i' s' g _ _ _ _ _ _
  refine ⟨8, ?_⟩
  simp only [laws_FnExactFactOver.f, laws_toFact.f, Option.bind_some, s_over, i_over _ _ _ _ _ _ _ _ 8 (by omega), bne_self_eq_false, Bool.false_eq_true, if_false]
end Go.Proofs.Ytnhalkdfkpebaaa.Pure
