/- The program's CoordDist answers as the reference's, for all coordinates. Conditions: none. -/
import Derived.Test.YtbpapiejmedkeaaPFnExactCoordDistx
set_option linter.unusedVariables false
set_option linter.unusedSimpArgs false
namespace Go.Proofs.Ytbpapiejmedkeaa.Pure
open Go.RowKit Go.Proofs.Ytbpapiejmedkeaa.PFnExactCoordDist Go.Proofs.YtbpapiejmedkeaaW.PrintWords Go.Proofs.YtbpapiejmedkeaaW.PrintLast Go.Proofs.YtbpapiejmedkeaaW.PrintMore
theorem w64 {n : Int} (h : -9223372036854775808 ≤ n) (h' : n ≤ 9223372036854775807) : wrap64 n = n := by unfold wrap64; omega
theorem lt_ge (a b : Int) : a < b ∨ b ≤ a := by omega
/-! the clamp -/
def cl (a : Int) : Int := max (-1000000000) (min a 1000000000)
theorem cl_bd (a : Int) : -1000000000 ≤ cl a ∧ cl a ≤ 1000000000 := by unfold cl; omega
theorem cl_in {a : Int} (h : -1000000000 ≤ a) (h' : a ≤ 1000000000) : cl a = a := by unfold cl; omega
theorem s_cl (a : Int) : spec_FixClamp.f a = some (cl a) := by
  simp only [spec_FixClamp.f, spec_l1Box.f, cl]
  by_cases h1 : a < -1000000000
  · rw [if_pos h1]; simp only [Option.bind_some]; congr 1; omega
  · rw [if_neg h1]
    by_cases h2 : a > 1000000000
    · rw [if_pos h2]; simp only [Option.bind_some]; congr 1; omega
    · rw [if_neg h2]; simp only [Option.bind_some]; congr 1; omega
theorem i_cl (a : Int) : impl_FixClamp.f a = some (cl a) := by
  simp only [impl_FixClamp.f, impl_clamp.f, cl, Option.bind_some, mx, mn]
  congr 1
  split <;> split <;> omega
/-! roots -/
def IsRoot (n r : Int) : Prop := 0 ≤ r ∧ r * r ≤ n ∧ n < (r + 1) * (r + 1)
theorem sq_mono {a b : Int} (h0 : 0 ≤ a) (h : a ≤ b) : a * a ≤ b * b := Int.mul_le_mul h h h0 (by omega)
theorem IsRoot.uniq {n r s : Int} (h : IsRoot n r) (h' : IsRoot n s) : r = s := by
  obtain ⟨a, b, c⟩ := h
  obtain ⟨a', b', c'⟩ := h'
  rcases Int.lt_trichotomy r s with hlt | heq | hgt
  · have := sq_mono (show 0 ≤ r + 1 by omega) (show r + 1 ≤ s by omega); omega
  · exact heq
  · have := sq_mono (show 0 ≤ s + 1 by omega) (show s + 1 ≤ r by omega); omega
theorem i_root_loop (n : Int) (d : Nat) : ∀ (k : Nat) (lo hi : Int), 0 ≤ lo → lo < hi → hi ≤ 2147483648 → lo * lo ≤ n → n < hi * hi → hi - lo ≤ d → d < k →
    ∃ r, IsRoot n r ∧ impl_root.l0 k n lo hi = some r := by
  induction d with
  | zero => intro k lo hi h0 h1 h2 h3 h4 h5 h6; omega
  | succ d ih =>
    intro k lo hi h0 h1 h2 h3 h4 h5 h6
    obtain ⟨k, rfl⟩ : ∃ m, k = m + 1 := ⟨k - 1, by omega⟩
    simp only [impl_root.l0]
    by_cases hc : hi - lo > 1
    · have e1 : wrap64 (hi - lo) = hi - lo := w64 (by omega) (by omega)
      have e2 : wrap64 (lo + hi) = lo + hi := w64 (by omega) (by omega)
      obtain ⟨m, hm⟩ : ∃ m, m = (lo + hi) / 2 := ⟨_, rfl⟩
      have e3 : wrap64 (Int.tdiv (lo + hi) 2) = m := by
        rw [Int.tdiv_eq_ediv_of_nonneg (by omega), ← hm]; exact w64 (by omega) (by omega)
      have hb := sq_mono (show 0 ≤ m by omega) (show m ≤ 2147483648 by omega)
      have hb0 := Int.mul_nonneg (show 0 ≤ m by omega) (show 0 ≤ m by omega)
      have e4 : wrap64 (m * m) = m * m := w64 (by omega) (by omega)
      rw [e1, if_pos hc, e2, e3, e4]
      by_cases ht : m * m ≤ n
      · rw [if_pos ht]; exact ih k m hi (by omega) (by omega) (by omega) ht h4 (by omega) (by omega)
      · rw [if_neg ht]; exact ih k lo m (by omega) (by omega) (by omega) h3 (by omega) (by omega) (by omega)
    · have e1 : wrap64 (hi - lo) = hi - lo := w64 (by omega) (by omega)
      rw [e1, if_neg hc]
      obtain rfl : hi = lo + 1 := by omega
      exact ⟨lo, ⟨h0, h3, h4⟩, rfl⟩
theorem i_root (n : Int) (h0 : 0 ≤ n) (h1 : n ≤ 4611686018427387903) : ∃ r, IsRoot n r ∧ Ev (fun k => impl_root.f k n) r := by
  obtain ⟨r, hr, h⟩ := i_root_loop n 2147483648 2147483649 0 2147483648 (by omega) (by omega) (by omega) (by omega) (by omega) (by omega) (by omega)
  exact ⟨r, hr, Ev.of (fun k => impl_root.mono _ _) (k := 2147483649) h⟩
theorem s_root_loop (n : Int) (hn : 0 ≤ n) (hn' : n ≤ 4611686018427387903) (d : Nat) : ∀ (k : Nat) (lo hi : Int), 0 ≤ lo → lo ≤ hi → hi ≤ 2147483647 → lo * lo ≤ n → n < (hi + 1) * (hi + 1) → hi - lo ≤ d → d < k →
    ∃ r, IsRoot n r ∧ spec_l1Root.l0 k n lo hi = some r := by
  induction d with
  | zero =>
    intro k lo hi h0 h1 h2 h3 h4 h5 h6
    obtain ⟨k, rfl⟩ : ∃ m, k = m + 1 := ⟨k - 1, by omega⟩
    simp only [spec_l1Root.l0]
    rw [if_neg (by omega)]
    obtain rfl : hi = lo := by omega
    exact ⟨hi, ⟨h0, h3, h4⟩, rfl⟩
  | succ d ih =>
    intro k lo hi h0 h1 h2 h3 h4 h5 h6
    obtain ⟨k, rfl⟩ : ∃ m, k = m + 1 := ⟨k - 1, by omega⟩
    simp only [spec_l1Root.l0]
    by_cases hc : lo < hi
    · have e2 : wrap64 (lo + hi) = lo + hi := w64 (by omega) (by omega)
      have e2' : wrap64 (lo + hi + 1) = lo + hi + 1 := w64 (by omega) (by omega)
      obtain ⟨m, hm⟩ : ∃ m, m = (lo + hi + 1) / 2 := ⟨_, rfl⟩
      have e3 : wrap64 (Int.tdiv (lo + hi + 1) 2) = m := by
        rw [Int.tdiv_eq_ediv_of_nonneg (by omega), ← hm]; exact w64 (by omega) (by omega)
      have hm0 : 0 < m := by omega
      have hdn : 0 ≤ n / m := Int.ediv_nonneg hn (by omega)
      have hdn' : n / m ≤ n := Int.ediv_le_self _ hn
      have e4 : wrap64 (Int.tdiv n m) = n / m := by
        rw [Int.tdiv_eq_ediv_of_nonneg hn]; exact w64 (by omega) (by omega)
      have e5 : wrap64 (m - 1) = m - 1 := w64 (by omega) (by omega)
      have hiff : m ≤ n / m ↔ m * m ≤ n := Int.le_ediv_iff_mul_le hm0
      rw [if_pos hc, e2, e2', e3, if_neg (by omega), e4]
      by_cases ht : m * m ≤ n
      · rw [if_pos (hiff.2 ht)]; exact ih k m hi (by omega) (by omega) (by omega) ht h4 (by omega) (by omega)
      · rw [if_neg (fun h => ht (hiff.1 h)), e5]
        refine ih k lo (m - 1) (by omega) (by omega) (by omega) h3 ?_ (by omega) (by omega)
        rw [Int.sub_add_cancel]; omega
    · rw [if_neg hc]
      obtain rfl : hi = lo := by omega
      exact ⟨hi, ⟨h0, h3, h4⟩, rfl⟩
theorem s_root (n : Int) (h0 : 0 ≤ n) (h1 : n < 2250000003000000001) : ∃ r, IsRoot n r ∧ Ev (fun k => spec_l1Root.f k n) r := by
  obtain ⟨r, hr, h⟩ := s_root_loop n h0 (by omega) 1500000000 1500000001 0 1500000000 (by omega) (by omega) (by omega) (by omega) (by omega) (by omega) (by omega)
  exact ⟨r, hr, Ev.of (fun k => spec_l1Root.mono _ _) (k := 1500000001) h⟩
/-- Both roots are the root. -/
theorem roots (n : Int) (h0 : 0 ≤ n) (h1 : n < 2250000003000000001) : ∃ r, IsRoot n r ∧ Ev (fun k => spec_l1Root.f k n) r ∧ Ev (fun k => impl_root.f k n) r := by
  obtain ⟨r, hr, h⟩ := s_root n h0 h1
  obtain ⟨s, hs, h'⟩ := i_root n h0 (by omega)
  obtain rfl := hr.uniq hs
  exact ⟨r, hr, h, h'⟩
theorem sq_bd {a : Int} (h : -1000000000 ≤ a ∧ a ≤ 1000000000) : 0 ≤ a * a ∧ a * a ≤ 1000000000000000000 := by
  obtain ⟨h1, h2⟩ := h
  rcases Int.le_total 0 a with h0 | h0
  · exact ⟨Int.mul_nonneg h0 h0, by have := sq_mono h0 h2; omega⟩
  · have e : a * a = (-a) * (-a) := by rw [Int.neg_mul_neg]
    rw [e]
    exact ⟨Int.mul_nonneg (by omega) (by omega), by have := sq_mono (show 0 ≤ -a by omega) (show -a ≤ 1000000000 by omega); omega⟩
theorem sum_bd (a b : Int) : 0 ≤ cl a * cl a + cl b * cl b ∧ cl a * cl a + cl b * cl b ≤ 2000000000000000000 ∧ wrap64 (wrap64 (cl a * cl a) + wrap64 (cl b * cl b)) = cl a * cl a + cl b * cl b := by
  have ha := sq_bd (cl_bd a)
  have hb := sq_bd (cl_bd b)
  refine ⟨by omega, by omega, ?_⟩
  rw [w64 (n := cl a * cl a) (by omega) (by omega), w64 (n := cl b * cl b) (by omega) (by omega)]
  exact w64 (by omega) (by omega)
/-- Both norms, however many rounds. -/
theorem norms (x y : Int) : ∃ r, IsRoot (cl x * cl x + cl y * cl y) r ∧ ∃ K, ∀ k, K ≤ k → spec_FixNorm.f k x y = some (cl r) ∧ impl_FixNorm.f k x y = some (cl r) := by
  obtain ⟨h0, h1, hw⟩ := sum_bd x y
  obtain ⟨r, hr, ⟨K1, e1⟩, ⟨K2, e2⟩⟩ := roots _ h0 (by omega)
  refine ⟨r, hr, max K1 K2, fun k hk => ⟨?_, ?_⟩⟩
  · have e := e1 k (by omega)
    dsimp only at e
    simp only [spec_FixNorm.f, s_cl, Option.bind_some, hw, e]
  · have e := e2 k (by omega)
    dsimp only at e
    simp only [impl_FixNorm.f, i_cl, Option.bind_some, hw, e]
/-! ranges -/
theorem s_in (a l h : Int) : spec_l1In.f a l h = some (decide (l ≤ a) && decide (a ≤ h)) := by
  simp only [spec_l1In.f]
  by_cases h1 : a ≥ l
  · rw [if_pos h1, decide_eq_true (show l ≤ a from h1)]; rfl
  · rw [if_neg h1, decide_eq_false (show ¬ l ≤ a from h1)]; rfl
theorem i_in (a l h : Int) : impl_in.f a l h = some (decide (l ≤ a) && decide (a ≤ h)) := by
  simp only [impl_in.f]
  by_cases h1 : a ≥ l
  · rw [if_pos h1, decide_eq_true (show l ≤ a from h1)]; rfl
  · rw [if_neg h1, decide_eq_false (show ¬ l ≤ a from h1)]; rfl
theorem if_some {α : Type} (c : Bool) (x : α) (y z : Bool) : (if c = true then some y else some z : Option Bool) = some (if c = true then y else z) := by cases c <;> rfl
def coordOk (x y h e : Int) : Bool := (decide (-100000 ≤ x) && decide (x ≤ 100000)) && ((decide (-100000 ≤ y) && decide (y ≤ 100000)) && ((decide (0 ≤ h) && decide (h ≤ 100000)) && (decide (1 ≤ e) && decide (e ≤ 1500))))
theorem s_coordOk (x y h e : Int) : spec_CoordOk.f x y h e = some (coordOk x y h e) := by
  simp only [spec_CoordOk.f, s_in, Option.bind_some, coordOk]
  cases (decide (-100000 ≤ x) && decide (x ≤ 100000)) <;> cases (decide (-100000 ≤ y) && decide (y ≤ 100000)) <;> cases (decide (0 ≤ h) && decide (h ≤ 100000)) <;> simp
theorem i_coordOk (x y h e : Int) : impl_CoordOk.f x y h e = some (coordOk x y h e) := by
  simp only [impl_CoordOk.f, i_in, Option.bind_some, coordOk]
  cases (decide (-100000 ≤ x) && decide (x ≤ 100000)) <;> cases (decide (-100000 ≤ y) && decide (y ≤ 100000)) <;> cases (decide (0 ≤ h) && decide (h ≤ 100000)) <;> simp
/-! ways between coordinates -/
theorem coordOk_iff (x y h e : Int) : coordOk x y h e = true ↔ (-100000 ≤ x ∧ x ≤ 100000) ∧ (-100000 ≤ y ∧ y ≤ 100000) ∧ (0 ≤ h ∧ h ≤ 100000) ∧ (1 ≤ e ∧ e ≤ 1500) := by
  unfold coordOk
  simp only [Bool.and_eq_true, decide_eq_true_eq]
theorem root_le {n r m : Int} (h : IsRoot n r) (hm : 0 ≤ m) (hn : n ≤ m * m) : r ≤ m := by
  obtain ⟨h0, h1, h2⟩ := h
  rcases lt_ge m r with hlt | hge
  · have := sq_mono (show 0 ≤ m + 1 by omega) (show m + 1 ≤ r by omega)
    have e : (m + 1) * (m + 1) = m * m + 2 * m + 1 := by rw [Int.add_mul, Int.mul_add]; omega
    omega
  · exact hge
theorem sq_small {a m : Int} (h : -m ≤ a ∧ a ≤ m) : 0 ≤ a * a ∧ a * a ≤ m * m := by
  rcases Int.le_total 0 a with h0 | h0
  · exact ⟨Int.mul_nonneg h0 h0, sq_mono h0 h.2⟩
  · rw [← Int.neg_mul_neg]
    exact ⟨Int.mul_nonneg (by omega) (by omega), sq_mono (show 0 ≤ -a by omega) (by omega)⟩
theorem norm_small (x y : Int) (hx : -200000 ≤ x ∧ x ≤ 200000) (hy : -200000 ≤ y ∧ y ≤ 200000) : ∃ r, IsRoot (x * x + y * y) r ∧ r ≤ 400000 ∧ ∃ K, ∀ k, K ≤ k → spec_FixNorm.f k x y = some r ∧ impl_FixNorm.f k x y = some r := by
  obtain ⟨r, hr, K, h⟩ := norms x y
  rw [cl_in (a := x) (by omega) (by omega), cl_in (a := y) (by omega) (by omega)] at hr
  have h1 := sq_small hx
  have h2 := sq_small hy
  have hle := root_le hr (show (0 : Int) ≤ 400000 by omega) (by omega)
  have h0 := hr.1
  rw [cl_in (a := r) (by omega) (by omega)] at h
  exact ⟨r, hr, hle, K, h⟩
/-- Both distances, however many rounds. -/
theorem dists (x y h e x' y' h' e' : Int) : ∃ d, (∃ K, ∀ k, K ≤ k → spec_CoordDist.f k x y h e x' y' h' e' = some d ∧ impl_CoordDist.f k x y h e x' y' h' e' = some d) ∧
    (coordOk x y h e = true → coordOk x' y' h' e' = true → ∃ r, IsRoot ((x - x') * (x - x') + (y - y') * (y - y')) r ∧ r ≤ 400000 ∧ d = r + h + h') ∧ (¬ (coordOk x y h e = true ∧ coordOk x' y' h' e' = true) → d = 0) := by
  by_cases h1 : coordOk x y h e = true
  · by_cases h2 : coordOk x' y' h' e' = true
    · obtain ⟨a1, a2, a3, a4⟩ := (coordOk_iff _ _ _ _).mp h1
      obtain ⟨b1, b2, b3, b4⟩ := (coordOk_iff _ _ _ _).mp h2
      obtain ⟨r, hr, hle, K, hK⟩ := norm_small (x - x') (y - y') (by omega) (by omega)
      have h0 := hr.1
      have w1 : wrap64 (x - x') = x - x' := w64 (by omega) (by omega)
      have w2 : wrap64 (y - y') = y - y' := w64 (by omega) (by omega)
      have w3 : wrap64 (r + h) = r + h := w64 (by omega) (by omega)
      have w4 : wrap64 (r + h + h') = r + h + h' := w64 (by omega) (by omega)
      refine ⟨r + h + h', ⟨K, fun k hk => ⟨?_, ?_⟩⟩, fun _ _ => ⟨r, hr, hle, rfl⟩, fun hn => absurd ⟨h1, h2⟩ hn⟩
      · simp only [spec_CoordDist.f, s_coordOk, h1, h2, Option.bind_some, if_true, w1, w2, (hK k hk).1, w3, w4]
      · simp only [impl_CoordDist.f, i_coordOk, h1, h2, Option.bind_some, if_true, w1, w2, (hK k hk).2, w3, w4]
    · have h2' : coordOk x' y' h' e' = false := by simpa using h2
      refine ⟨0, ⟨0, fun k hk => ⟨?_, ?_⟩⟩, fun _ hq => absurd hq h2, fun _ => rfl⟩
      · simp only [spec_CoordDist.f, s_coordOk, h1, h2', Option.bind_some, if_true, Bool.false_eq_true, if_false]
      · simp only [impl_CoordDist.f, i_coordOk, h1, h2', Option.bind_some, if_true, Bool.false_eq_true, if_false]
  · have h1' : coordOk x y h e = false := by simpa using h1
    refine ⟨0, ⟨0, fun k hk => ⟨?_, ?_⟩⟩, fun hq _ => absurd hq h1, fun _ => rfl⟩
    · simp only [spec_CoordDist.f, s_coordOk, h1', Option.bind_some, Bool.false_eq_true, if_false]
    · simp only [impl_CoordDist.f, i_coordOk, h1', Option.bind_some, Bool.false_eq_true, if_false]
theorem FnExactCoordDist : laws_FnExactCoordDist.Pure := by
  intro x y h e x' y' h' e' _ _ _ _ _ _ _ _
  obtain ⟨d, ⟨K, hK⟩, -, -⟩ := dists x y h e x' y' h' e'
  refine ⟨K, ?_⟩
  simp only [laws_FnExactCoordDist.f, laws_toCoord.f, Option.bind_some, (hK K (Nat.le_refl _)).1, (hK K (Nat.le_refl _)).2, if_true]
end Go.Proofs.Ytbpapiejmedkeaa.Pure
