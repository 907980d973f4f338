/- Of drawn coordinates that are ok, and a trip that can have been: behind it one is not more wrong than before, but for what is cut off. Conditions: the bytes' number is within the row's reach. -/
import Derived.Test.YtbpapiejmedkeaaPFnCoordNearx
set_option linter.unusedVariables false
set_option linter.unusedSimpArgs false
namespace Go.Proofs.Ytbpapiejmedkeaa.Pure
open Go.RowKit Go.Proofs.Ytbpapiejmedkeaa.PFnCoordNear Go.Proofs.YtbpapiejmedkeaaW.PrintWords Go.Proofs.YtbpapiejmedkeaaW.PrintLast Go.Proofs.YtbpapiejmedkeaaW.PrintMore
theorem w64 {n : Int} (h : -9223372036854775808 ≤ n) (h' : n ≤ 9223372036854775807) : wrap64 n = n := by unfold wrap64; omega
theorem lt_ge (a b : Int) : a < b ∨ b ≤ a := by omega
/-! drawing -/
theorem i64_xor (a b : Int) (h1 : 0 ≤ a) (h2 : a < 9223372036854775808) (h3 : 0 ≤ b) (h4 : b < 9223372036854775808) : Go.bits .xor .i64 a b = ((a.toNat ^^^ b.toNat : Nat) : Int) := by
  obtain ⟨a, rfl⟩ := Int.eq_ofNat_of_zero_le h1
  obtain ⟨b, rfl⟩ := Int.eq_ofNat_of_zero_le h3
  have ha' : a % 2 ^ IntKind.i64.bits = a := Nat.mod_eq_of_lt (by show a < 2 ^ 64; omega)
  have hb' : b % 2 ^ IntKind.i64.bits = b := Nat.mod_eq_of_lt (by show b < 2 ^ 64; omega)
  have hx : a ^^^ b < 2 ^ 63 := Nat.xor_lt_two_pow (by omega) (by omega)
  simp only [Go.bits, BitVec.ofInt_natCast, BitVec.toNat_xor, BitVec.toNat_ofNat, ha', hb', Int.toNat_natCast]
  rw [IntKind.wrap_i64]
  omega
/-- The reader's bytes and its place. -/
def Rdr (b : List Int) (p : Int) : Prop := (∀ x ∈ b, 0 ≤ x ∧ x ≤ 255) ∧ b.length ≤ 2000 ∧ 0 ≤ p
theorem rd_byte {b : List Int} (h : ∀ x ∈ b, 0 ≤ x ∧ x ≤ 255) (i : Int) : 0 ≤ rd b i ∧ rd b i ≤ 255 := by
  unfold rd
  rw [List.getD_eq_getElem?_getD]
  rcases hq : b[i.toNat]? with _ | x
  · simp
  · exact h x (List.mem_of_getElem? hq)
theorem tmod_bd {a n : Int} (ha : 0 ≤ a) (hn : 0 < n) : 0 ≤ Int.tmod a n ∧ Int.tmod a n < n := ⟨Int.tmod_nonneg _ ha, Int.tmod_lt_of_pos _ hn⟩
theorem pick_ok (b : List Int) (p n : Int) (hR : Rdr b p) (hp : p ≤ 1000000) : ∃ v, 0 ≤ v ∧ (0 < n → v < n) ∧ (n < 1 → v = 0) ∧ ∀ k, 1 ≤ k → spec_l1Rd_pick.f k b p n = some (v, p + 1) := by
  obtain ⟨hb, hl, h0⟩ := hR
  have e1 : wrap64 (p + 1) = p + 1 := w64 (by omega) (by omega)
  by_cases hn : n < 1
  · refine ⟨0, by omega, by omega, fun _ => rfl, fun k hk => ?_⟩
    obtain ⟨k, rfl⟩ : ∃ m, k = m + 1 := ⟨k - 1, by omega⟩
    simp only [spec_l1Rd_pick.f, spec_l1Rd_pick.j0]
    rw [if_pos hn, if_pos trivial, e1]
  · have e2 : wrap64 (p + 1 - 1) = p := by rw [w64 (by omega) (by omega)]; omega
    by_cases hz : b.length = 0
    · refine ⟨0, by omega, by omega, fun _ => rfl, fun k hk => ?_⟩
      obtain ⟨k, rfl⟩ : ∃ m, k = m + 1 := ⟨k - 1, by omega⟩
      simp only [spec_l1Rd_pick.f, spec_l1Rd_pick.j0]
      rw [if_neg hn, if_pos (beq_iff_eq.mpr (by omega)), e1]
    · have hz' : ((b.length : Int) == 0) = false := beq_eq_false_iff_ne.mpr (by omega)
      by_cases hlt : p < (b.length : Int)
      · obtain ⟨r1, r2⟩ := rd_byte hb p
        obtain ⟨m1, m2⟩ := tmod_bd r1 (show 0 < n by omega)
        refine ⟨Int.tmod (rd b p) n, m1, fun _ => m2, by omega, fun k hk => ?_⟩
        obtain ⟨k, rfl⟩ : ∃ m, k = m + 1 := ⟨k - 1, by omega⟩
        simp only [spec_l1Rd_pick.f, spec_l1Rd_pick.j0, hz', e1, e2]
        rw [if_neg hn, if_neg (by decide), if_pos hlt, if_pos h0, if_neg (by omega), w64 (n := rd b p) (by omega) (by omega)]
      · have e3 : wrap64 (p * 7) = p * 7 := w64 (by omega) (by omega)
        have e4 : wrap64 (p * 7 + 3) = p * 7 + 3 := w64 (by omega) (by omega)
        have e5 : wrap64 (p * 29) = p * 29 := w64 (by omega) (by omega)
        obtain ⟨i, hi⟩ : ∃ i, i = Int.tmod p (b.length : Int) := ⟨_, rfl⟩
        obtain ⟨j, hj⟩ : ∃ j, j = Int.tmod (p * 7 + 3) (b.length : Int) := ⟨_, rfl⟩
        obtain ⟨i1, i2⟩ := tmod_bd h0 (show 0 < (b.length : Int) by omega)
        obtain ⟨j1, j2⟩ := tmod_bd (show 0 ≤ p * 7 + 3 by omega) (show 0 < (b.length : Int) by omega)
        rw [← hi] at i1 i2
        rw [← hj] at j1 j2
        obtain ⟨a1, a2⟩ := rd_byte hb i
        obtain ⟨c1, c2⟩ := rd_byte hb j
        obtain ⟨q, hq⟩ : ∃ q, q = Int.tdiv p (b.length : Int) := ⟨_, rfl⟩
        have q1 : 0 ≤ q ∧ q ≤ p := by
          rw [hq, Int.tdiv_eq_ediv_of_nonneg h0]
          exact ⟨Int.ediv_nonneg h0 (by omega), Int.ediv_le_self _ h0⟩
        have f1 : wrap64 (rd b i) = rd b i := w64 (by omega) (by omega)
        have f2 : wrap64 (rd b j) = rd b j := w64 (by omega) (by omega)
        have f3 : wrap64 (rd b i * 131) = rd b i * 131 := w64 (by omega) (by omega)
        have f4 : wrap64 (rd b j * 1117) = rd b j * 1117 := w64 (by omega) (by omega)
        have f5 : wrap64 q = q := w64 (by omega) (by omega)
        have f6 : wrap64 (q * 53) = q * 53 := w64 (by omega) (by omega)
        have f7 : wrap64 (rd b i * 131 + rd b j * 1117) = rd b i * 131 + rd b j * 1117 := w64 (by omega) (by omega)
        have f8 : wrap64 (rd b i * 131 + rd b j * 1117 + p * 29) = rd b i * 131 + rd b j * 1117 + p * 29 := w64 (by omega) (by omega)
        obtain ⟨x, hx⟩ : ∃ x, x = rd b i * 131 + rd b j * 1117 + p * 29 + q * 53 := ⟨_, rfl⟩
        have f9 : wrap64 (rd b i * 131 + rd b j * 1117 + p * 29 + q * 53) = x := by rw [hx]; exact w64 (by omega) (by omega)
        have x1 : 0 ≤ x := by omega
        have x2 : x ≤ 100000000 := by omega
        have f10 : wrap64 (Int.tdiv x 64) = x / 64 := by rw [Int.tdiv_eq_ediv_of_nonneg x1]; exact w64 (by omega) (by omega)
        have f11 := i64_xor x (x / 64) x1 (by omega) (by omega) (by omega)
        obtain ⟨m1, m2⟩ := tmod_bd (Int.natCast_nonneg (x.toNat ^^^ (x / 64).toNat)) (show 0 < n by omega)
        refine ⟨Int.tmod ((x.toNat ^^^ (x / 64).toNat : Nat) : Int) n, m1, fun _ => m2, by omega, fun k hk => ?_⟩
        obtain ⟨k, rfl⟩ : ∃ m, k = m + 1 := ⟨k - 1, by omega⟩
        simp only [spec_l1Rd_pick.f, spec_l1Rd_pick.j0, hz', e1, e2, e3, e4, e5, ← hi, ← hj, ← hq, f1, f2, f3, f4, f5, f6, f7, f8, f9, f10, f11]
        rw [if_neg hn, if_neg (by decide), if_neg hlt, if_neg (by omega), if_pos i1, if_pos i2, if_pos j1, if_pos j2, if_neg (by omega)]
theorem rdr_next {b : List Int} {p : Int} (h : Rdr b p) : Rdr b (p + 1) := ⟨h.1, h.2.1, by have := h.2.2; omega⟩
theorem open_ok (l : List Int) (hl : ∀ x ∈ l, (Lit.int .u8 x).wf = true) : ∃ b, Rdr b 0 ∧ spec_l1Open.f l = some (b, 0) := by
  have hw : ∀ x ∈ l, 0 ≤ x ∧ x ≤ 255 := by
    intro x hx
    have := hl x hx
    have h2 := (Bool.and_eq_true _ _).mp this
    have h3 := of_decide_eq_true h2.1
    have h4 := of_decide_eq_true h2.2
    exact ⟨h3, h4⟩
  simp only [spec_l1Open.f]
  by_cases h : (l.length : Int) > 2000
  · rw [if_pos h, if_pos (by omega)]
    exact ⟨l.take 2000, ⟨fun x hx => hw x (List.mem_of_mem_take hx), by rw [List.length_take]; omega, by omega⟩, rfl⟩
  · rw [if_neg h]
    exact ⟨l, ⟨hw, by omega, by omega⟩, rfl⟩
/-! the clamp -/
def cl (a : Int) : Int := max (-1000000000) (min a 1000000000)
theorem cl_bd (a : Int) : -1000000000 ≤ cl a ∧ cl a ≤ 1000000000 := by unfold cl; omega
theorem cl_in {a : Int} (h : -1000000000 ≤ a) (h' : a ≤ 1000000000) : cl a = a := by unfold cl; omega
theorem s_cl (a : Int) : spec_FixClamp.f a = some (cl a) := by
  simp only [spec_FixClamp.f, spec_l1Box.f, cl]
  by_cases h1 : a < -1000000000
  · rw [if_pos h1]; simp only [Option.bind_some]; congr 1; omega
  · rw [if_neg h1]
    by_cases h2 : a > 1000000000
    · rw [if_pos h2]; simp only [Option.bind_some]; congr 1; omega
    · rw [if_neg h2]; simp only [Option.bind_some]; congr 1; omega
theorem i_cl (a : Int) : impl_FixClamp.f a = some (cl a) := by
  simp only [impl_FixClamp.f, impl_clamp.f, cl, Option.bind_some, mx, mn]
  congr 1
  split <;> split <;> omega
/-! roots -/
def IsRoot (n r : Int) : Prop := 0 ≤ r ∧ r * r ≤ n ∧ n < (r + 1) * (r + 1)
theorem sq_mono {a b : Int} (h0 : 0 ≤ a) (h : a ≤ b) : a * a ≤ b * b := Int.mul_le_mul h h h0 (by omega)
theorem IsRoot.uniq {n r s : Int} (h : IsRoot n r) (h' : IsRoot n s) : r = s := by
  obtain ⟨a, b, c⟩ := h
  obtain ⟨a', b', c'⟩ := h'
  rcases Int.lt_trichotomy r s with hlt | heq | hgt
  · have := sq_mono (show 0 ≤ r + 1 by omega) (show r + 1 ≤ s by omega); omega
  · exact heq
  · have := sq_mono (show 0 ≤ s + 1 by omega) (show s + 1 ≤ r by omega); omega
theorem i_root_loop (n : Int) (d : Nat) : ∀ (k : Nat) (lo hi : Int), 0 ≤ lo → lo < hi → hi ≤ 2147483648 → lo * lo ≤ n → n < hi * hi → hi - lo ≤ d → d < k →
    ∃ r, IsRoot n r ∧ impl_root.l0 k n lo hi = some r := by
  induction d with
  | zero => intro k lo hi h0 h1 h2 h3 h4 h5 h6; omega
  | succ d ih =>
    intro k lo hi h0 h1 h2 h3 h4 h5 h6
    obtain ⟨k, rfl⟩ : ∃ m, k = m + 1 := ⟨k - 1, by omega⟩
    simp only [impl_root.l0]
    by_cases hc : hi - lo > 1
    · have e1 : wrap64 (hi - lo) = hi - lo := w64 (by omega) (by omega)
      have e2 : wrap64 (lo + hi) = lo + hi := w64 (by omega) (by omega)
      obtain ⟨m, hm⟩ : ∃ m, m = (lo + hi) / 2 := ⟨_, rfl⟩
      have e3 : wrap64 (Int.tdiv (lo + hi) 2) = m := by
        rw [Int.tdiv_eq_ediv_of_nonneg (by omega), ← hm]; exact w64 (by omega) (by omega)
      have hb := sq_mono (show 0 ≤ m by omega) (show m ≤ 2147483648 by omega)
      have hb0 := Int.mul_nonneg (show 0 ≤ m by omega) (show 0 ≤ m by omega)
      have e4 : wrap64 (m * m) = m * m := w64 (by omega) (by omega)
      rw [e1, if_pos hc, e2, e3, e4]
      by_cases ht : m * m ≤ n
      · rw [if_pos ht]; exact ih k m hi (by omega) (by omega) (by omega) ht h4 (by omega) (by omega)
      · rw [if_neg ht]; exact ih k lo m (by omega) (by omega) (by omega) h3 (by omega) (by omega) (by omega)
    · have e1 : wrap64 (hi - lo) = hi - lo := w64 (by omega) (by omega)
      rw [e1, if_neg hc]
      obtain rfl : hi = lo + 1 := by omega
      exact ⟨lo, ⟨h0, h3, h4⟩, rfl⟩
theorem i_root (n : Int) (h0 : 0 ≤ n) (h1 : n ≤ 4611686018427387903) : ∃ r, IsRoot n r ∧ Ev (fun k => impl_root.f k n) r := by
  obtain ⟨r, hr, h⟩ := i_root_loop n 2147483648 2147483649 0 2147483648 (by omega) (by omega) (by omega) (by omega) (by omega) (by omega) (by omega)
  exact ⟨r, hr, Ev.of (fun k => impl_root.mono _ _) (k := 2147483649) h⟩
theorem s_root_loop (n : Int) (hn : 0 ≤ n) (hn' : n ≤ 4611686018427387903) (d : Nat) : ∀ (k : Nat) (lo hi : Int), 0 ≤ lo → lo ≤ hi → hi ≤ 2147483647 → lo * lo ≤ n → n < (hi + 1) * (hi + 1) → hi - lo ≤ d → d < k →
    ∃ r, IsRoot n r ∧ spec_l1Root.l0 k n lo hi = some r := by
  induction d with
  | zero =>
    intro k lo hi h0 h1 h2 h3 h4 h5 h6
    obtain ⟨k, rfl⟩ : ∃ m, k = m + 1 := ⟨k - 1, by omega⟩
    simp only [spec_l1Root.l0]
    rw [if_neg (by omega)]
    obtain rfl : hi = lo := by omega
    exact ⟨hi, ⟨h0, h3, h4⟩, rfl⟩
  | succ d ih =>
    intro k lo hi h0 h1 h2 h3 h4 h5 h6
    obtain ⟨k, rfl⟩ : ∃ m, k = m + 1 := ⟨k - 1, by omega⟩
    simp only [spec_l1Root.l0]
    by_cases hc : lo < hi
    · have e2 : wrap64 (lo + hi) = lo + hi := w64 (by omega) (by omega)
      have e2' : wrap64 (lo + hi + 1) = lo + hi + 1 := w64 (by omega) (by omega)
      obtain ⟨m, hm⟩ : ∃ m, m = (lo + hi + 1) / 2 := ⟨_, rfl⟩
      have e3 : wrap64 (Int.tdiv (lo + hi + 1) 2) = m := by
        rw [Int.tdiv_eq_ediv_of_nonneg (by omega), ← hm]; exact w64 (by omega) (by omega)
      have hm0 : 0 < m := by omega
      have hdn : 0 ≤ n / m := Int.ediv_nonneg hn (by omega)
      have hdn' : n / m ≤ n := Int.ediv_le_self _ hn
      have e4 : wrap64 (Int.tdiv n m) = n / m := by
        rw [Int.tdiv_eq_ediv_of_nonneg hn]; exact w64 (by omega) (by omega)
      have e5 : wrap64 (m - 1) = m - 1 := w64 (by omega) (by omega)
      have hiff : m ≤ n / m ↔ m * m ≤ n := Int.le_ediv_iff_mul_le hm0
      rw [if_pos hc, e2, e2', e3, if_neg (by omega), e4]
      by_cases ht : m * m ≤ n
      · rw [if_pos (hiff.2 ht)]; exact ih k m hi (by omega) (by omega) (by omega) ht h4 (by omega) (by omega)
      · rw [if_neg (fun h => ht (hiff.1 h)), e5]
        refine ih k lo (m - 1) (by omega) (by omega) (by omega) h3 ?_ (by omega) (by omega)
        rw [Int.sub_add_cancel]; omega
    · rw [if_neg hc]
      obtain rfl : hi = lo := by omega
      exact ⟨hi, ⟨h0, h3, h4⟩, rfl⟩
theorem s_root (n : Int) (h0 : 0 ≤ n) (h1 : n < 2250000003000000001) : ∃ r, IsRoot n r ∧ Ev (fun k => spec_l1Root.f k n) r := by
  obtain ⟨r, hr, h⟩ := s_root_loop n h0 (by omega) 1500000000 1500000001 0 1500000000 (by omega) (by omega) (by omega) (by omega) (by omega) (by omega) (by omega)
  exact ⟨r, hr, Ev.of (fun k => spec_l1Root.mono _ _) (k := 1500000001) h⟩
/-- Both roots are the root. -/
theorem roots (n : Int) (h0 : 0 ≤ n) (h1 : n < 2250000003000000001) : ∃ r, IsRoot n r ∧ Ev (fun k => spec_l1Root.f k n) r ∧ Ev (fun k => impl_root.f k n) r := by
  obtain ⟨r, hr, h⟩ := s_root n h0 h1
  obtain ⟨s, hs, h'⟩ := i_root n h0 (by omega)
  obtain rfl := hr.uniq hs
  exact ⟨r, hr, h, h'⟩
theorem sq_bd {a : Int} (h : -1000000000 ≤ a ∧ a ≤ 1000000000) : 0 ≤ a * a ∧ a * a ≤ 1000000000000000000 := by
  obtain ⟨h1, h2⟩ := h
  rcases Int.le_total 0 a with h0 | h0
  · exact ⟨Int.mul_nonneg h0 h0, by have := sq_mono h0 h2; omega⟩
  · have e : a * a = (-a) * (-a) := by rw [Int.neg_mul_neg]
    rw [e]
    exact ⟨Int.mul_nonneg (by omega) (by omega), by have := sq_mono (show 0 ≤ -a by omega) (show -a ≤ 1000000000 by omega); omega⟩
theorem sum_bd (a b : Int) : 0 ≤ cl a * cl a + cl b * cl b ∧ cl a * cl a + cl b * cl b ≤ 2000000000000000000 ∧ wrap64 (wrap64 (cl a * cl a) + wrap64 (cl b * cl b)) = cl a * cl a + cl b * cl b := by
  have ha := sq_bd (cl_bd a)
  have hb := sq_bd (cl_bd b)
  refine ⟨by omega, by omega, ?_⟩
  rw [w64 (n := cl a * cl a) (by omega) (by omega), w64 (n := cl b * cl b) (by omega) (by omega)]
  exact w64 (by omega) (by omega)
/-- Both norms, however many rounds. -/
theorem norms (x y : Int) : ∃ r, IsRoot (cl x * cl x + cl y * cl y) r ∧ ∃ K, ∀ k, K ≤ k → spec_FixNorm.f k x y = some (cl r) ∧ impl_FixNorm.f k x y = some (cl r) := by
  obtain ⟨h0, h1, hw⟩ := sum_bd x y
  obtain ⟨r, hr, ⟨K1, e1⟩, ⟨K2, e2⟩⟩ := roots _ h0 (by omega)
  refine ⟨r, hr, max K1 K2, fun k hk => ⟨?_, ?_⟩⟩
  · have e := e1 k (by omega)
    dsimp only at e
    simp only [spec_FixNorm.f, s_cl, Option.bind_some, hw, e]
  · have e := e2 k (by omega)
    dsimp only at e
    simp only [impl_FixNorm.f, i_cl, Option.bind_some, hw, e]
/-! ranges -/
theorem s_in (a l h : Int) : spec_l1In.f a l h = some (decide (l ≤ a) && decide (a ≤ h)) := by
  simp only [spec_l1In.f]
  by_cases h1 : a ≥ l
  · rw [if_pos h1, decide_eq_true (show l ≤ a from h1)]; rfl
  · rw [if_neg h1, decide_eq_false (show ¬ l ≤ a from h1)]; rfl
theorem i_in (a l h : Int) : impl_in.f a l h = some (decide (l ≤ a) && decide (a ≤ h)) := by
  simp only [impl_in.f]
  by_cases h1 : a ≥ l
  · rw [if_pos h1, decide_eq_true (show l ≤ a from h1)]; rfl
  · rw [if_neg h1, decide_eq_false (show ¬ l ≤ a from h1)]; rfl
theorem if_some {α : Type} (c : Bool) (x : α) (y z : Bool) : (if c = true then some y else some z : Option Bool) = some (if c = true then y else z) := by cases c <;> rfl
def coordOk (x y h e : Int) : Bool := (decide (-100000 ≤ x) && decide (x ≤ 100000)) && ((decide (-100000 ≤ y) && decide (y ≤ 100000)) && ((decide (0 ≤ h) && decide (h ≤ 100000)) && (decide (1 ≤ e) && decide (e ≤ 1500))))
theorem s_coordOk (x y h e : Int) : spec_CoordOk.f x y h e = some (coordOk x y h e) := by
  simp only [spec_CoordOk.f, s_in, Option.bind_some, coordOk]
  cases (decide (-100000 ≤ x) && decide (x ≤ 100000)) <;> cases (decide (-100000 ≤ y) && decide (y ≤ 100000)) <;> cases (decide (0 ≤ h) && decide (h ≤ 100000)) <;> simp
theorem i_coordOk (x y h e : Int) : impl_CoordOk.f x y h e = some (coordOk x y h e) := by
  simp only [impl_CoordOk.f, i_in, Option.bind_some, coordOk]
  cases (decide (-100000 ≤ x) && decide (x ≤ 100000)) <;> cases (decide (-100000 ≤ y) && decide (y ≤ 100000)) <;> cases (decide (0 ≤ h) && decide (h ≤ 100000)) <;> simp
/-! ways between coordinates -/
theorem coordOk_iff (x y h e : Int) : coordOk x y h e = true ↔ (-100000 ≤ x ∧ x ≤ 100000) ∧ (-100000 ≤ y ∧ y ≤ 100000) ∧ (0 ≤ h ∧ h ≤ 100000) ∧ (1 ≤ e ∧ e ≤ 1500) := by
  unfold coordOk
  simp only [Bool.and_eq_true, decide_eq_true_eq]
theorem root_le {n r m : Int} (h : IsRoot n r) (hm : 0 ≤ m) (hn : n ≤ m * m) : r ≤ m := by
  obtain ⟨h0, h1, h2⟩ := h
  rcases lt_ge m r with hlt | hge
  · have := sq_mono (show 0 ≤ m + 1 by omega) (show m + 1 ≤ r by omega)
    have e : (m + 1) * (m + 1) = m * m + 2 * m + 1 := by rw [Int.add_mul, Int.mul_add]; omega
    omega
  · exact hge
theorem sq_small {a m : Int} (h : -m ≤ a ∧ a ≤ m) : 0 ≤ a * a ∧ a * a ≤ m * m := by
  rcases Int.le_total 0 a with h0 | h0
  · exact ⟨Int.mul_nonneg h0 h0, sq_mono h0 h.2⟩
  · rw [← Int.neg_mul_neg]
    exact ⟨Int.mul_nonneg (by omega) (by omega), sq_mono (show 0 ≤ -a by omega) (by omega)⟩
theorem norm_small (x y : Int) (hx : -200000 ≤ x ∧ x ≤ 200000) (hy : -200000 ≤ y ∧ y ≤ 200000) : ∃ r, IsRoot (x * x + y * y) r ∧ r ≤ 400000 ∧ ∃ K, ∀ k, K ≤ k → spec_FixNorm.f k x y = some r ∧ impl_FixNorm.f k x y = some r := by
  obtain ⟨r, hr, K, h⟩ := norms x y
  rw [cl_in (a := x) (by omega) (by omega), cl_in (a := y) (by omega) (by omega)] at hr
  have h1 := sq_small hx
  have h2 := sq_small hy
  have hle := root_le hr (show (0 : Int) ≤ 400000 by omega) (by omega)
  have h0 := hr.1
  rw [cl_in (a := r) (by omega) (by omega)] at h
  exact ⟨r, hr, hle, K, h⟩
/-- Both distances, however many rounds. -/
theorem dists (x y h e x' y' h' e' : Int) : ∃ d, (∃ K, ∀ k, K ≤ k → spec_CoordDist.f k x y h e x' y' h' e' = some d ∧ impl_CoordDist.f k x y h e x' y' h' e' = some d) ∧
    (coordOk x y h e = true → coordOk x' y' h' e' = true → ∃ r, IsRoot ((x - x') * (x - x') + (y - y') * (y - y')) r ∧ r ≤ 400000 ∧ d = r + h + h') ∧ (¬ (coordOk x y h e = true ∧ coordOk x' y' h' e' = true) → d = 0) := by
  by_cases h1 : coordOk x y h e = true
  · by_cases h2 : coordOk x' y' h' e' = true
    · obtain ⟨a1, a2, a3, a4⟩ := (coordOk_iff _ _ _ _).mp h1
      obtain ⟨b1, b2, b3, b4⟩ := (coordOk_iff _ _ _ _).mp h2
      obtain ⟨r, hr, hle, K, hK⟩ := norm_small (x - x') (y - y') (by omega) (by omega)
      have h0 := hr.1
      have w1 : wrap64 (x - x') = x - x' := w64 (by omega) (by omega)
      have w2 : wrap64 (y - y') = y - y' := w64 (by omega) (by omega)
      have w3 : wrap64 (r + h) = r + h := w64 (by omega) (by omega)
      have w4 : wrap64 (r + h + h') = r + h + h' := w64 (by omega) (by omega)
      refine ⟨r + h + h', ⟨K, fun k hk => ⟨?_, ?_⟩⟩, fun _ _ => ⟨r, hr, hle, rfl⟩, fun hn => absurd ⟨h1, h2⟩ hn⟩
      · simp only [spec_CoordDist.f, s_coordOk, h1, h2, Option.bind_some, if_true, w1, w2, (hK k hk).1, w3, w4]
      · simp only [impl_CoordDist.f, i_coordOk, h1, h2, Option.bind_some, if_true, w1, w2, (hK k hk).2, w3, w4]
    · have h2' : coordOk x' y' h' e' = false := by simpa using h2
      refine ⟨0, ⟨0, fun k hk => ⟨?_, ?_⟩⟩, fun _ hq => absurd hq h2, fun _ => rfl⟩
      · simp only [spec_CoordDist.f, s_coordOk, h1, h2', Option.bind_some, if_true, Bool.false_eq_true, if_false]
      · simp only [impl_CoordDist.f, i_coordOk, h1, h2', Option.bind_some, if_true, Bool.false_eq_true, if_false]
  · have h1' : coordOk x y h e = false := by simpa using h1
    refine ⟨0, ⟨0, fun k hk => ⟨?_, ?_⟩⟩, fun hq _ => absurd hq h1, fun _ => rfl⟩
    · simp only [spec_CoordDist.f, s_coordOk, h1', Option.bind_some, Bool.false_eq_true, if_false]
    · simp only [impl_CoordDist.f, i_coordOk, h1', Option.bind_some, Bool.false_eq_true, if_false]
/-! moving -/
theorem mul_nat (x y : Int) (m n : Nat) (hx : x.natAbs ≤ m) (hy : y.natAbs ≤ n) : (x * y).natAbs ≤ m * n := by
  rw [Int.natAbs_mul]; exact Nat.mul_le_mul hx hy
theorem nb {a : Int} {n : Nat} (h : a.natAbs ≤ n) : -(n : Int) ≤ a ∧ a ≤ n := by omega
theorem tdiv_abs (a b : Int) : (Int.tdiv a b).natAbs ≤ a.natAbs := by rw [Int.natAbs_tdiv]; exact Nat.div_le_self _ _
def clip (a l h : Int) : Int := max l (min a h)
theorem s_box (a l h : Int) (hlh : l ≤ h) : spec_l1Box.f a l h = some (clip a l h) := by
  simp only [spec_l1Box.f, clip]
  by_cases h1 : a < l
  · rw [if_pos h1]; congr 1; omega
  · rw [if_neg h1]
    by_cases h2 : a > h
    · rw [if_pos h2]; congr 1; omega
    · rw [if_neg h2]; congr 1; omega
theorem i_box (a l h : Int) : impl_clamp.f a l h = some (clip a l h) := by
  simp only [impl_clamp.f, mx, mn, clip]
  congr 1
  split <;> split <;> omega
def mforce (w ae both : Int) : Int := Int.tdiv (Int.tdiv (w * ae) both) 4
def away (t : Int) : Int × Int := if Go.bits .and .i64 t 3 = 0 then (1, 0) else if Go.bits .and .i64 t 3 = 1 then (0, 1) else if Go.bits .and .i64 t 3 = 2 then (-1, 0) else (0, -1)
def merr (ae both trip w : Int) : Int := clip (ae + Int.tdiv (Int.tdiv ((min (Int.tdiv ((w.natAbs : Int) * 1000) trip) 1500 - ae) * ae) both) 4) 1 1500
def mfin (ax ay ah ae both trip w f x y n : Int) : Int × Int × Int × Int :=
  (clip (ax + Int.tdiv (f * x) n) (-100000) 100000, clip (ay + Int.tdiv (f * y) n) (-100000) 100000, clip (ah + Int.tdiv f 4) 0 100000, merr ae both trip w)
def mvF (ax ay ah ae bx by_ bh be trip turn r : Int) : Int × Int × Int × Int :=
  if r > 0 then mfin ax ay ah ae (ae + be) trip (trip - (r + ah + bh)) (max (mforce (trip - (r + ah + bh)) ae (ae + be)) (-r)) (ax - bx) (ay - by_) r
  else if mforce (trip - (r + ah + bh)) ae (ae + be) < 0 then mfin ax ay ah ae (ae + be) trip (trip - (r + ah + bh)) (mforce (trip - (r + ah + bh)) ae (ae + be)) 0 0 1
  else mfin ax ay ah ae (ae + be) trip (trip - (r + ah + bh)) (mforce (trip - (r + ah + bh)) ae (ae + be)) (away turn).1 (away turn).2 1
theorem err_bd (ae both trip w : Int) (h1 : 1 ≤ ae) (h2 : ae ≤ 1500) (hb : 2 ≤ both) (hb' : both ≤ 3000) (ht : 1 ≤ trip) (hw : w.natAbs ≤ 700000) :
    0 ≤ Int.tdiv ((w.natAbs : Int) * 1000) trip ∧ Int.tdiv ((w.natAbs : Int) * 1000) trip ≤ 700000000 ∧ ((min (Int.tdiv ((w.natAbs : Int) * 1000) trip) 1500 - ae) * ae).natAbs ≤ 2250000 ∧ (Int.tdiv ((min (Int.tdiv ((w.natAbs : Int) * 1000) trip) 1500 - ae) * ae) both).natAbs ≤ 2250000 ∧ (Int.tdiv (Int.tdiv ((min (Int.tdiv ((w.natAbs : Int) * 1000) trip) 1500 - ae) * ae) both) 4).natAbs ≤ 2250000 := by
  have q0 : 0 ≤ Int.tdiv ((w.natAbs : Int) * 1000) trip := Int.tdiv_nonneg (by omega) (by omega)
  have q1 := tdiv_abs ((w.natAbs : Int) * 1000) trip
  have q2 := mul_nat (min (Int.tdiv ((w.natAbs : Int) * 1000) trip) 1500 - ae) ae 1500 1500 (by omega) (by omega)
  have q3 := tdiv_abs ((min (Int.tdiv ((w.natAbs : Int) * 1000) trip) 1500 - ae) * ae) both
  have q4 := tdiv_abs (Int.tdiv ((min (Int.tdiv ((w.natAbs : Int) * 1000) trip) 1500 - ae) * ae) both) 4
  refine ⟨q0, by omega, by omega, by omega, by omega⟩
theorem abs_eq (w : Int) (h : w.natAbs ≤ 700000) : spec_l2Abs.f w = some (w.natAbs : Int) := by
  simp only [spec_l2Abs.f]
  by_cases h0 : w < 0
  · rw [if_pos h0, w64 (by omega) (by omega)]; congr 1; omega
  · rw [if_neg h0]; congr 1; omega
theorem s_err (ax ay ah ae bx by_ bh be trip w : Int) (h1 : 1 ≤ ae) (h2 : ae ≤ 1500) (hb : 1 ≤ be) (hb' : be ≤ 1500) (ht : 1 ≤ trip) (hw : w.natAbs ≤ 700000) : spec_l2Error.f ax ay ah ae bx by_ bh be w trip = some (merr ae (ae + be) trip w) := by
  obtain ⟨q0, q1, q2, q3, q4⟩ := err_bd ae (ae + be) trip w h1 h2 (by omega) (by omega) ht hw
  simp only [spec_l2Error.f, abs_eq w hw, Option.bind_some]
  rw [if_neg (by omega), w64 (n := (w.natAbs : Int) * 1000) (by omega) (by omega), w64 (n := Int.tdiv ((w.natAbs : Int) * 1000) trip) (by omega) (by omega), s_box _ _ _ (by omega)]
  simp only [Option.bind_some]
  have e : clip (Int.tdiv ((w.natAbs : Int) * 1000) trip) 0 1500 = min (Int.tdiv ((w.natAbs : Int) * 1000) trip) 1500 := by unfold clip; omega
  rw [e, w64 (n := ae + be) (by omega) (by omega), if_neg (by omega)]
  rw [w64 (n := min (Int.tdiv ((w.natAbs : Int) * 1000) trip) 1500 - ae) (by omega) (by omega), w64 (n := (min (Int.tdiv ((w.natAbs : Int) * 1000) trip) 1500 - ae) * ae) (by omega) (by omega), w64 (n := Int.tdiv ((min (Int.tdiv ((w.natAbs : Int) * 1000) trip) 1500 - ae) * ae) (ae + be)) (by omega) (by omega), w64 (n := Int.tdiv (Int.tdiv ((min (Int.tdiv ((w.natAbs : Int) * 1000) trip) 1500 - ae) * ae) (ae + be)) 4) (by omega) (by omega), w64 (by omega) (by omega), s_box _ _ _ (by omega)]
  rfl
/-- What is known of the parts of a move. -/
structure Parts (ax ay ah ae bx by_ bh be trip w f x y n : Int) : Prop where
  ax1 : ax.natAbs ≤ 100000
  ay1 : ay.natAbs ≤ 100000
  ah1 : ah.natAbs ≤ 100000
  ae1 : 1 ≤ ae
  ae2 : ae ≤ 1500
  be1 : 1 ≤ be
  be2 : be ≤ 1500
  t1 : 1 ≤ trip
  w1 : w.natAbs ≤ 700000
  f1 : f.natAbs ≤ 700000
  x1 : x.natAbs ≤ 200000
  y1 : y.natAbs ≤ 200000
  n1 : 1 ≤ n
theorem parts_bd {ax ay ah ae bx by_ bh be trip w f x y n : Int} (h : Parts ax ay ah ae bx by_ bh be trip w f x y n) :
    wrap64 (f * x) = f * x ∧ wrap64 (f * y) = f * y ∧ wrap64 (Int.tdiv (f * x) n) = Int.tdiv (f * x) n ∧ wrap64 (Int.tdiv (f * y) n) = Int.tdiv (f * y) n ∧ wrap64 (ax + Int.tdiv (f * x) n) = ax + Int.tdiv (f * x) n ∧ wrap64 (ay + Int.tdiv (f * y) n) = ay + Int.tdiv (f * y) n ∧ wrap64 (Int.tdiv f 4) = Int.tdiv f 4 ∧ wrap64 (ah + Int.tdiv f 4) = ah + Int.tdiv f 4 := by
  obtain ⟨a1, a2, a3, a4, a5, a6, a7, a8, a9, a10, a11, a12, a13⟩ := h
  have fx := nb (mul_nat f x 700000 200000 a10 a11)
  have fy := nb (mul_nat f y 700000 200000 a10 a12)
  have tx := nb (Nat.le_trans (tdiv_abs (f * x) n) (mul_nat f x 700000 200000 a10 a11))
  have ty := nb (Nat.le_trans (tdiv_abs (f * y) n) (mul_nat f y 700000 200000 a10 a12))
  have t4 := nb (Nat.le_trans (tdiv_abs f 4) a10)
  have bx := nb a1
  have by2 := nb a2
  have bh2 := nb a3
  clear a1 a2 a3 a4 a5 a6 a7 a8 a9 a10 a11 a12 a13
  exact ⟨w64 (by omega) (by omega), w64 (by omega) (by omega), w64 (by omega) (by omega), w64 (by omega) (by omega), w64 (by omega) (by omega), w64 (by omega) (by omega), w64 (by omega) (by omega), w64 (by omega) (by omega)⟩
theorem s_j1 {ax ay ah ae bx by_ bh be trip w f x y n : Int} (h : Parts ax ay ah ae bx by_ bh be trip w f x y n) (k : Nat) : spec_CoordMove.j1 (k + 1) trip w f x y n ax ay ah ae bx by_ bh be = some (mfin ax ay ah ae (ae + be) trip w f x y n) := by
  obtain ⟨e1, e2, e3, e4, e5, e6, e7, e8⟩ := parts_bd h
  simp only [spec_CoordMove.j1, e1, e2, e3, e4, e5, e6, e7, e8, s_box _ _ _ (show (-100000 : Int) ≤ 100000 by omega), s_box _ _ _ (show (0 : Int) ≤ 100000 by omega), s_err ax ay ah ae bx by_ bh be trip w h.ae1 h.ae2 h.be1 h.be2 h.t1 h.w1, Option.bind_some]
  rw [if_neg (by have := h.n1; omega)]
  rfl
theorem i_j1 {ax ay ah ae bx by_ bh be trip w f x y n : Int} (h : Parts ax ay ah ae bx by_ bh be trip w f x y n) (k : Nat) : impl_CoordMove.j1 (k + 1) trip w (ae + be) f x y n ax ay ah ae = some (mfin ax ay ah ae (ae + be) trip w f x y n) := by
  obtain ⟨e1, e2, e3, e4, e5, e6, e7, e8⟩ := parts_bd h
  have b1 := h.ae1
  have b2 := h.ae2
  have b3 := h.be1
  have b4 := h.be2
  have b5 := h.t1
  have b6 := h.w1
  have b7 := h.n1
  obtain ⟨q0, q1, q2, q3, q4⟩ := err_bd ae (ae + be) trip w b1 b2 (by omega) (by omega) b5 b6
  have ea : mx w (wrap64 (-w)) = (w.natAbs : Int) := by rw [w64 (by omega) (by omega)]; unfold mx; split <;> omega
  have em : mn (Int.tdiv ((w.natAbs : Int) * 1000) trip) 1500 = min (Int.tdiv ((w.natAbs : Int) * 1000) trip) 1500 := by unfold mn; split <;> omega
  simp only [impl_CoordMove.j1, e1, e2, e3, e4, e5, e6, e7, e8, i_box, Option.bind_some, ea]
  rw [if_neg (by omega), if_neg (by omega), if_neg (by omega), w64 (n := (w.natAbs : Int) * 1000) (by omega) (by omega), w64 (n := Int.tdiv ((w.natAbs : Int) * 1000) trip) (by omega) (by omega), em]
  rw [w64 (n := min (Int.tdiv ((w.natAbs : Int) * 1000) trip) 1500 - ae) (by omega) (by omega), w64 (n := (min (Int.tdiv ((w.natAbs : Int) * 1000) trip) 1500 - ae) * ae) (by omega) (by omega), w64 (n := Int.tdiv ((min (Int.tdiv ((w.natAbs : Int) * 1000) trip) 1500 - ae) * ae) (ae + be)) (by omega) (by omega), w64 (n := Int.tdiv (Int.tdiv ((min (Int.tdiv ((w.natAbs : Int) * 1000) trip) 1500 - ae) * ae) (ae + be)) 4) (by omega) (by omega), w64 (n := ae + Int.tdiv (Int.tdiv ((min (Int.tdiv ((w.natAbs : Int) * 1000) trip) 1500 - ae) * ae) (ae + be)) 4) (by omega) (by omega)]
  rfl
theorem tripIn (trip : Int) : (decide (1 ≤ trip) && decide (trip ≤ 60000)) = true ↔ 1 ≤ trip ∧ trip ≤ 60000 := by simp
/-- A force is at most a quarter of what is wrong. -/
theorem force_bd (w ae both : Int) (h1 : 1 ≤ ae) (h2 : ae ≤ both) : 4 * (mforce w ae both).natAbs ≤ w.natAbs ∧ (0 ≤ w → 0 ≤ mforce w ae both) ∧ (w ≤ 0 → mforce w ae both ≤ 0) := by
  unfold mforce
  have hq : (Int.tdiv (w * ae) both).natAbs ≤ w.natAbs := by
    rw [Int.natAbs_tdiv, Int.natAbs_mul]
    refine Nat.div_le_of_le_mul ?_
    rw [Nat.mul_comm]
    exact Nat.mul_le_mul_right _ (by omega)
  have h4 : (Int.tdiv (Int.tdiv (w * ae) both) 4).natAbs = (Int.tdiv (w * ae) both).natAbs / 4 := Int.natAbs_tdiv ..
  refine ⟨by omega, fun hw => ?_, fun hw => ?_⟩
  · exact Int.tdiv_nonneg (Int.tdiv_nonneg (Int.mul_nonneg hw (by omega)) (by omega)) (by omega)
  · have n1 : 0 ≤ Int.tdiv ((-w) * ae) both := Int.tdiv_nonneg (Int.mul_nonneg (by omega) (by omega)) (by omega)
    rw [Int.neg_mul, Int.neg_tdiv] at n1
    have n2 : 0 ≤ Int.tdiv (-(Int.tdiv (w * ae) both)) 4 := Int.tdiv_nonneg (by omega) (by omega)
    rw [Int.neg_tdiv] at n2
    omega
/-- Where both are ok and the trip can have been. -/
theorem moves_ok (ax ay ah ae bx by_ bh be trip turn : Int) (oa : coordOk ax ay ah ae = true) (ob : coordOk bx by_ bh be = true) (ht : 1 ≤ trip ∧ trip ≤ 60000) :
    ∃ r, IsRoot ((ax - bx) * (ax - bx) + (ay - by_) * (ay - by_)) r ∧ r ≤ 400000 ∧ ∃ K, ∀ k, K ≤ k → spec_CoordMove.f k ax ay ah ae bx by_ bh be trip turn = some (mvF ax ay ah ae bx by_ bh be trip turn r) ∧ impl_CoordMove.f k ax ay ah ae bx by_ bh be trip turn = some (mvF ax ay ah ae bx by_ bh be trip turn r) := by
  obtain ⟨a1, a2, a3, a4⟩ := (coordOk_iff _ _ _ _).mp oa
  obtain ⟨b1, b2, b3, b4⟩ := (coordOk_iff _ _ _ _).mp ob
  obtain ⟨d, ⟨K1, hK1⟩, g1, -⟩ := dists ax ay ah ae bx by_ bh be
  obtain ⟨r, hr, hle, hd⟩ := g1 oa ob
  obtain ⟨s, hs, -, K2, hK2⟩ := norm_small (ax - bx) (ay - by_) (by omega) (by omega)
  obtain rfl : s = r := hs.uniq hr
  have r0 := hr.1
  refine ⟨s, hr, hle, max K1 K2 + 2, fun k hk => ?_⟩
  obtain ⟨k, rfl⟩ : ∃ m, k = m + 2 := ⟨k - 2, by omega⟩
  have hk1 := hK1 (k + 1) (by omega)
  have hk2 := hK2 (k + 1) (by omega)
  have e1 : wrap64 (ax - bx) = ax - bx := w64 (by omega) (by omega)
  have e2 : wrap64 (ay - by_) = ay - by_ := w64 (by omega) (by omega)
  have e3 : wrap64 (ae + be) = ae + be := w64 (by omega) (by omega)
  have e4 : wrap64 (trip - d) = trip - d := w64 (by omega) (by omega)
  have p1 := mul_nat (trip - d) ae 700000 1500 (by omega) (by omega)
  have p2 := tdiv_abs ((trip - d) * ae) (ae + be)
  have p3 := tdiv_abs (Int.tdiv ((trip - d) * ae) (ae + be)) 4
  have e5 : wrap64 ((trip - d) * ae) = (trip - d) * ae := w64 (by omega) (by omega)
  have e6 : wrap64 (Int.tdiv ((trip - d) * ae) (ae + be)) = Int.tdiv ((trip - d) * ae) (ae + be) := w64 (by omega) (by omega)
  have e7 : wrap64 (Int.tdiv (Int.tdiv ((trip - d) * ae) (ae + be)) 4) = mforce (trip - d) ae (ae + be) := w64 (by omega) (by omega)
  have e8 : wrap64 (-s) = -s := w64 (by omega) (by omega)
  have hfb := (force_bd (trip - d) ae (ae + be) (by omega) (by omega)).1
  have ew : trip - (s + ah + bh) = trip - d := by omega
  obtain ⟨f, hf⟩ : ∃ f, f = mforce (trip - d) ae (ae + be) := ⟨_, rfl⟩
  rw [← hf] at e7 hfb
  have P : ∀ g x y n : Int, g.natAbs ≤ 700000 → x.natAbs ≤ 200000 → y.natAbs ≤ 200000 → 1 ≤ n → Parts ax ay ah ae bx by_ bh be trip (trip - d) g x y n := by
    intro g x y n h1 h2 h3 h4
    exact ⟨by omega, by omega, by omega, by omega, by omega, by omega, by omega, by omega, by omega, h1, h2, h3, h4⟩
  have hin : (decide (1 ≤ trip) && decide (trip ≤ 60000)) = true := (tripIn trip).mpr ht
  have hw2 : (away turn).1.natAbs ≤ 200000 ∧ (away turn).2.natAbs ≤ 200000 := by
    unfold away
    split
    · simp
    · split
      · simp
      · split <;> simp
  have hforce : spec_l2Force.f ax ay ah ae bx by_ bh be (trip - d) = some f := by
    simp only [spec_l2Force.f, e3, e5, e6, e7]
    rw [if_neg (by omega)]
  have haway : spec_l2Away.f turn = some (away turn) := by
    simp only [spec_l2Away.f, away]
    split
    · rfl
    · split
      · rfl
      · split <;> rfl
  unfold mvF
  rw [ew, ← hf]
  by_cases hs0 : s > 0
  · rw [if_pos hs0]
    have hm : mx f (-s) = max f (-s) := by unfold mx; split <;> omega
    refine ⟨?_, ?_⟩
    · simp only [spec_CoordMove.f, s_coordOk, oa, ob, Option.bind_some, if_true, s_in, hin, Bool.not_true, spec_CoordMove.j0, hk1.1, hk2.1, e1, e2, e4, e8, hforce]
      rw [if_neg (by decide), if_neg (by omega)]
      by_cases hlt : f < -s
      · rw [if_pos hlt, s_j1 (P _ _ _ _ (by omega) (by omega) (by omega) (by omega)), show max f (-s) = -s by omega]
      · rw [if_neg hlt, s_j1 (P _ _ _ _ (by omega) (by omega) (by omega) (by omega)), show max f (-s) = f by omega]
    · simp only [impl_CoordMove.f, i_coordOk, oa, ob, Option.bind_some, if_true, i_in, hin, Bool.not_true, impl_CoordMove.j0, hk1.2, hk2.2, e1, e2, e3, e4, e5, e6, e7, e8, hm]
      rw [if_neg (by decide), if_neg (by omega), if_pos hs0, i_j1 (P _ _ _ _ (by omega) (by omega) (by omega) (by omega))]
  · rw [if_neg hs0]
    obtain rfl : s = 0 := by omega
    have hz : ax - bx = 0 ∧ ay - by_ = 0 := by
      have h2 := hr.2.2
      have n1 := (sq_small (a := ax - bx) (m := 200000) (by omega)).1
      have n2 := (sq_small (a := ay - by_) (m := 200000) (by omega)).1
      have z1 : (ax - bx) * (ax - bx) = 0 := by omega
      have z2 : (ay - by_) * (ay - by_) = 0 := by omega
      exact ⟨by rcases Int.mul_eq_zero.mp z1 with h | h <;> exact h, by rcases Int.mul_eq_zero.mp z2 with h | h <;> exact h⟩
    have hP := P f 0 0 1 (by omega) (by omega) (by omega) (by omega)
    have hP2 := P f (away turn).1 (away turn).2 1 (by omega) hw2.1 hw2.2 (by omega)
    refine ⟨?_, ?_⟩
    · simp only [spec_CoordMove.f, s_coordOk, oa, ob, Option.bind_some, if_true, s_in, hin, Bool.not_true, spec_CoordMove.j0, hk1.1, hk2.1, e1, e2, e4, hforce, haway]
      rw [if_neg (by decide)]
      by_cases hlt : f < 0
      · rw [if_pos hlt, if_pos hlt, s_j1 hP]
      · rw [if_neg hlt, if_neg hlt, s_j1 hP2]
    · simp only [impl_CoordMove.f, i_coordOk, oa, ob, Option.bind_some, if_true, i_in, hin, Bool.not_true, impl_CoordMove.j0, hk1.2, hk2.2, e1, e2, e3, e4, e5, e6, e7]
      simp only [hz.1, hz.2]
      rw [if_neg (by decide), if_neg (by omega), if_neg (by omega)]
      by_cases hlt : f < 0
      · rw [if_neg (by omega), if_pos hlt, i_j1 hP]
      · rw [if_pos (by omega), if_neg hlt]
        unfold away at hP2 ⊢
        by_cases c0 : Go.bits .and .i64 turn 3 = 0
        · rw [if_pos c0] at hP2 ⊢; rw [if_pos c0, i_j1 hP2]
        · rw [if_neg c0] at hP2 ⊢; rw [if_neg c0]
          by_cases c1 : Go.bits .and .i64 turn 3 = 1
          · rw [if_pos c1] at hP2 ⊢; rw [if_pos c1, i_j1 hP2]
          · rw [if_neg c1] at hP2 ⊢; rw [if_neg c1]
            by_cases c2 : Go.bits .and .i64 turn 3 = 2
            · rw [if_pos c2] at hP2 ⊢; rw [if_pos c2, i_j1 hP2]
            · rw [if_neg c2] at hP2 ⊢; rw [if_neg c2, i_j1 hP2]
theorem moves_no (ax ay ah ae bx by_ bh be trip turn : Int) (oa : ¬ coordOk ax ay ah ae = true) (k : Nat) : spec_CoordMove.f k ax ay ah ae bx by_ bh be trip turn = some (0, 0, 0, 0) ∧ impl_CoordMove.f k ax ay ah ae bx by_ bh be trip turn = some (0, 0, 0, 0) := by
  have h : coordOk ax ay ah ae = false := by simpa using oa
  refine ⟨?_, ?_⟩
  · simp only [spec_CoordMove.f, s_coordOk, h, Option.bind_some, Bool.false_eq_true, if_false]
  · simp only [impl_CoordMove.f, i_coordOk, h, Option.bind_some, Bool.false_eq_true, if_false]
theorem moves_stay (ax ay ah ae bx by_ bh be trip turn : Int) (oa : coordOk ax ay ah ae = true) (hb : ¬ (coordOk bx by_ bh be = true ∧ 1 ≤ trip ∧ trip ≤ 60000)) (k : Nat) (hk : 1 ≤ k) : spec_CoordMove.f k ax ay ah ae bx by_ bh be trip turn = some (ax, ay, ah, ae) ∧ impl_CoordMove.f k ax ay ah ae bx by_ bh be trip turn = some (ax, ay, ah, ae) := by
  obtain ⟨k, rfl⟩ : ∃ m, k = m + 1 := ⟨k - 1, by omega⟩
  have s0 : spec_CoordMove.j0 (k + 1) trip turn true ax ay ah ae bx by_ bh be = some (ax, ay, ah, ae) := by simp only [spec_CoordMove.j0, if_true]
  have i0 : impl_CoordMove.j0 (k + 1) trip turn true ax ay ah ae bx by_ bh be = some (ax, ay, ah, ae) := by simp only [impl_CoordMove.j0, if_true]
  by_cases ob : coordOk bx by_ bh be = true
  · have hin : (decide (1 ≤ trip) && decide (trip ≤ 60000)) = false := by
      cases hc : (decide (1 ≤ trip) && decide (trip ≤ 60000))
      · rfl
      · exact absurd ⟨ob, (tripIn trip).mp hc⟩ hb
    refine ⟨?_, ?_⟩
    · simp only [spec_CoordMove.f, s_coordOk, oa, ob, Option.bind_some, if_true, s_in, hin, Bool.not_false, s0]
    · simp only [impl_CoordMove.f, i_coordOk, oa, ob, Option.bind_some, if_true, i_in, hin, Bool.not_false, i0]
  · have h : coordOk bx by_ bh be = false := by simpa using ob
    refine ⟨?_, ?_⟩
    · simp only [spec_CoordMove.f, s_coordOk, oa, h, Option.bind_some, if_true, Bool.false_eq_true, if_false, s0]
    · simp only [impl_CoordMove.f, i_coordOk, oa, h, Option.bind_some, if_true, Bool.false_eq_true, if_false, i0]
/-- Both moves, however many rounds. -/
theorem moves (ax ay ah ae bx by_ bh be trip turn : Int) : ∃ c1 c2 c3 c4, ∃ K, ∀ k, K ≤ k → spec_CoordMove.f k ax ay ah ae bx by_ bh be trip turn = some (c1, c2, c3, c4) ∧ impl_CoordMove.f k ax ay ah ae bx by_ bh be trip turn = some (c1, c2, c3, c4) := by
  by_cases oa : coordOk ax ay ah ae = true
  · by_cases hb : coordOk bx by_ bh be = true ∧ 1 ≤ trip ∧ trip ≤ 60000
    · obtain ⟨r, -, -, K, hK⟩ := moves_ok ax ay ah ae bx by_ bh be trip turn oa hb.1 hb.2
      exact ⟨_, _, _, _, K, hK⟩
    · exact ⟨_, _, _, _, 1, fun k hk => moves_stay ax ay ah ae bx by_ bh be trip turn oa hb k hk⟩
  · exact ⟨_, _, _, _, 0, fun k hk => moves_no ax ay ah ae bx by_ bh be trip turn oa k⟩
theorem coord_ok (b : List Int) (p : Int) (hR : Rdr b p) (hp : p ≤ 100000) : ∃ x y h e q, Rdr b q ∧ q ≤ p + 6 ∧ ∀ k, 1 ≤ k → spec_l61Coord.f k b p = some (x, y, h, e, q) := by
  obtain ⟨v1, a1, b1, -, h1⟩ := pick_ok b p 6 hR (by omega)
  have R1 := rdr_next hR
  by_cases hz : v1 = 0
  · refine ⟨0, 0, 0, 1500, p + 1, R1, by omega, fun k hk => ?_⟩
    simp only [spec_l61Coord.f, h1 k hk, Option.bind_some, spec_CoordNew.f]
    rw [if_pos hz]
  · obtain ⟨v2, a2, b2, -, h2⟩ := pick_ok b (p + 1) 3 R1 (by omega)
    have b2 := b2 (by omega)
    have R2 := rdr_next R1
    obtain ⟨f, hf⟩ : ∃ f, f = rd [10, 1000, 100000] v2 := ⟨_, rfl⟩
    obtain ⟨v3, a3, b3, -, h3⟩ := pick_ok b (p + 1 + 1) (wrap64 (wrap64 (2 * f) + 1)) R2 (by omega)
    have R3 := rdr_next R2
    obtain ⟨v4, a4, b4, -, h4⟩ := pick_ok b (p + 1 + 1 + 1) (wrap64 (wrap64 (2 * f) + 1)) R3 (by omega)
    have R4 := rdr_next R3
    obtain ⟨v5, a5, b5, -, h5⟩ := pick_ok b (p + 1 + 1 + 1 + 1) (wrap64 (f + 1)) R4 (by omega)
    have R5 := rdr_next R4
    obtain ⟨v6, a6, b6, -, h6⟩ := pick_ok b (p + 1 + 1 + 1 + 1 + 1) 1500 R5 (by omega)
    refine ⟨wrap64 (v3 - f), wrap64 (v4 - f), v5, wrap64 (1 + v6), p + 1 + 1 + 1 + 1 + 1 + 1, rdr_next R5, by omega, fun k hk => ?_⟩
    simp only [spec_l61Coord.f, h1 k hk, Option.bind_some]
    rw [if_neg hz]
    simp only [h2 k hk, Option.bind_some, ← hf]
    rw [if_pos a2, if_pos (by simp; omega)]
    simp only [h3 k hk, h4 k hk, h5 k hk, h6 k hk, Option.bind_some]
theorem anyCoord_ok (b : List Int) (p : Int) (hR : Rdr b p) (hp : p ≤ 100000) : ∃ x y h e q, Rdr b q ∧ q ≤ p + 8 ∧ ∀ k, 1 ≤ k → spec_l61AnyCoord.f k b p = some (x, y, h, e, q) := by
  obtain ⟨x, y, h, e, q, R0, hq, h0⟩ := coord_ok b p hR hp
  obtain ⟨v1, a1, b1, -, h1⟩ := pick_ok b q 16 R0 (by omega)
  have R1 := rdr_next R0
  obtain ⟨v2, a2, b2, -, h2⟩ := pick_ok b (q + 1) 3 R1 (by omega)
  obtain ⟨v3, a3, b3, -, h3⟩ := pick_ok b (q + 1) 2 R1 (by omega)
  have R2 := rdr_next R1
  have b2 := b2 (by omega)
  have b3 := b3 (by omega)
  by_cases c0 : v1 = 0
  · refine ⟨rd [100000, 100001, -100001] v2, y, h, e, q + 1 + 1, R2, by omega, fun k hk => ?_⟩
    simp only [spec_l61AnyCoord.f, h0 k hk, h1 k hk, h2 k hk, Option.bind_some]
    rw [if_pos c0, if_pos a2, if_pos (by simp; omega)]
  · by_cases c1 : v1 = 1
    · refine ⟨x, y, rd [-1, 100001] v3, e, q + 1 + 1, R2, by omega, fun k hk => ?_⟩
      simp only [spec_l61AnyCoord.f, h0 k hk, h1 k hk, h3 k hk, Option.bind_some]
      rw [if_neg c0, if_pos c1, if_pos a3, if_pos (by simp; omega)]
    · by_cases c2 : v1 = 2
      · refine ⟨x, y, h, rd [0, 1501] v3, q + 1 + 1, R2, by omega, fun k hk => ?_⟩
        simp only [spec_l61AnyCoord.f, h0 k hk, h1 k hk, h3 k hk, Option.bind_some]
        rw [if_neg c0, if_neg c1, if_pos c2, if_pos a3, if_pos (by simp; omega)]
      · refine ⟨x, y, h, e, q + 1, R1, by omega, fun k hk => ?_⟩
        simp only [spec_l61AnyCoord.f, h0 k hk, h1 k hk, Option.bind_some]
        rw [if_neg c0, if_neg c1, if_neg c2]
theorem move_drawn (l : List Int) (hl : ∀ x ∈ l, (Lit.int .u8 x).wf = true) : ∃ ax ay ah ae bx by_ bh be trip turn, -1 ≤ trip ∧ trip ≤ 60001 ∧ ∀ k, 2 ≤ k → spec_DrawCoordMove.f k l = some (ax, ay, ah, ae, bx, by_, bh, be, trip, turn) := by
  obtain ⟨b, hR, ho⟩ := open_ok l hl
  obtain ⟨ax, ay, ah, ae, q, R, hq, h1⟩ := anyCoord_ok b 0 hR (by omega)
  obtain ⟨bx, by_, bh, be, q', R', hq', h2⟩ := anyCoord_ok b q R (by omega)
  obtain ⟨v, a3, b3, -, h3⟩ := pick_ok b q' 5 R' (by omega)
  have R3 := rdr_next R'
  obtain ⟨v4, a4, b4, -, h4⟩ := pick_ok b (q' + 1) 300 R3 (by omega)
  have R4 := rdr_next R3
  obtain ⟨v5, a5, b5, -, h5⟩ := pick_ok b (q' + 1 + 1) 60000 R4 (by omega)
  have R5 := rdr_next R4
  obtain ⟨v6, a6, b6, -, h6⟩ := pick_ok b (q' + 1 + 1 + 1) 6 R5 (by omega)
  have R6 := rdr_next R5
  obtain ⟨v7, a7, b7, -, h7⟩ := pick_ok b (q' + 1 + 1 + 1 + 1) 9 R6 (by omega)
  have b4 := b4 (by omega)
  have b5 := b5 (by omega)
  have b6 := b6 (by omega)
  have hj : ∀ k, 1 ≤ k → ∀ p1 p2 p3 p4 p5 p6 p7 p8, spec_DrawCoordMove.j0 (k + 1) b (q' + 1) p1 p2 p3 p4 p5 p6 p7 p8 = some (p1, p2, p3, p4, p5, p6, p7, p8, rd [v4, v5, 0, -1, 60000, 60001] v6, wrap64 (v7 - 4)) := by
    intro k hk p1 p2 p3 p4 p5 p6 p7 p8
    simp only [spec_DrawCoordMove.j0, h4 k hk, h5 k hk, h6 k hk, h7 k hk, Option.bind_some]
    rw [if_pos a6, if_pos (by simp; omega)]
  have htr : -1 ≤ rd [v4, v5, 0, -1, 60000, 60001] v6 ∧ rd [v4, v5, 0, -1, 60000, 60001] v6 ≤ 60001 := by
    obtain rfl | rfl | rfl | rfl | rfl | rfl : v6 = 0 ∨ v6 = 1 ∨ v6 = 2 ∨ v6 = 3 ∨ v6 = 4 ∨ v6 = 5 := by omega
    all_goals simp [rd]; try omega
  by_cases hv : v = 0
  · refine ⟨ax, ay, ah, ae, ax, ay, bh, be, rd [v4, v5, 0, -1, 60000, 60001] v6, wrap64 (v7 - 4), htr.1, htr.2, fun k hk => ?_⟩
    obtain ⟨k, rfl⟩ : ∃ m, k = m + 1 := ⟨k - 1, by omega⟩
    simp only [spec_DrawCoordMove.f, ho, h1 (k + 1) (by omega), h2 (k + 1) (by omega), h3 (k + 1) (by omega), Option.bind_some]
    rw [if_pos hv, hj k (by omega)]
  · refine ⟨ax, ay, ah, ae, bx, by_, bh, be, rd [v4, v5, 0, -1, 60000, 60001] v6, wrap64 (v7 - 4), htr.1, htr.2, fun k hk => ?_⟩
    obtain ⟨k, rfl⟩ : ∃ m, k = m + 1 := ⟨k - 1, by omega⟩
    simp only [spec_DrawCoordMove.f, ho, h1 (k + 1) (by omega), h2 (k + 1) (by omega), h3 (k + 1) (by omega), Option.bind_some]
    rw [if_neg hv, hj k (by omega)]
theorem same4 (a b c d : Int) : (!(a == a) || (!(b == b) || (!(c == c) || (!(d == d))))) = false := by simp
theorem same4' (a b c d : Int) : (a == a && (b == b && (c == c && (d == d)))) = true := by simp
theorem clip_bd (a l h : Int) (hlh : l ≤ h) : l ≤ clip a l h ∧ clip a l h ≤ h := by unfold clip; omega
theorem mfin_ok (ax ay ah ae both trip w f x y n : Int) : coordOk (mfin ax ay ah ae both trip w f x y n).1 (mfin ax ay ah ae both trip w f x y n).2.1 (mfin ax ay ah ae both trip w f x y n).2.2.1 (mfin ax ay ah ae both trip w f x y n).2.2.2 = true := by
  rw [coordOk_iff]
  exact ⟨clip_bd _ _ _ (by omega), clip_bd _ _ _ (by omega), clip_bd _ _ _ (by omega), clip_bd _ _ _ (by omega)⟩
theorem mv_ok (ax ay ah ae bx by_ bh be trip turn r : Int) : coordOk (mvF ax ay ah ae bx by_ bh be trip turn r).1 (mvF ax ay ah ae bx by_ bh be trip turn r).2.1 (mvF ax ay ah ae bx by_ bh be trip turn r).2.2.1 (mvF ax ay ah ae bx by_ bh be trip turn r).2.2.2 = true := by
  unfold mvF
  split
  · exact mfin_ok ..
  · split
    · exact mfin_ok ..
    · exact mfin_ok ..
theorem abs_some (a : Int) (h : -9223372036854775808 < a) (h' : a ≤ 9223372036854775807) : laws_lhAbs.f a = some (a.natAbs : Int) := by
  simp only [laws_lhAbs.f]
  by_cases h0 : a < 0
  · rw [if_pos h0, w64 (by omega) (by omega)]; congr 1; omega
  · rw [if_neg h0]; congr 1; omega
theorem sq_abs (a : Int) : (a.natAbs : Int) * (a.natAbs : Int) = a * a := by
  rcases Int.le_total 0 a with h | h
  · rw [show (a.natAbs : Int) = a by omega]
  · rw [show (a.natAbs : Int) = -a by omega, Int.neg_mul_neg]
theorem sq_pos (a : Int) : 0 ≤ a * a := by
  rcases Int.le_total 0 a with h | h
  · exact Int.mul_nonneg h h
  · exact Int.mul_nonneg_of_nonpos_of_nonpos h h
theorem sq_le {a b : Int} (h : a.natAbs ≤ b.natAbs) : a * a ≤ b * b := by
  rw [← sq_abs a, ← sq_abs b]; exact sq_mono (by omega) (by omega)
/-- The third side, but for what is cut off. -/
theorem third (u1 u2 v1 v2 r s t : Int) (hr : IsRoot (u1 * u1 + u2 * u2) r) (hs : IsRoot (v1 * v1 + v2 * v2) s) (ht : IsRoot ((u1 + v1) * (u1 + v1) + (u2 + v2) * (u2 + v2)) t) : t ≤ r + s + 2 := by
  obtain ⟨r0, r1, r2⟩ := hr
  obtain ⟨s0, s1, s2⟩ := hs
  obtain ⟨t0, t1, t2⟩ := ht
  obtain ⟨p, hp⟩ : ∃ p, p = u1 * v1 + u2 * v2 := ⟨_, rfl⟩
  obtain ⟨m, hm⟩ : ∃ m, m = (r + 1) * (s + 1) := ⟨_, rfl⟩
  have hm0 : 0 ≤ m := by rw [hm]; exact Int.mul_nonneg (by omega) (by omega)
  have id1 : p * p + (u1 * v2 - u2 * v1) * (u1 * v2 - u2 * v1) = (u1 * u1 + u2 * u2) * (v1 * v1 + v2 * v2) := by rw [hp]; grind
  have id2 : m * m = ((r + 1) * (r + 1)) * ((s + 1) * (s + 1)) := by rw [hm]; grind
  have q0 := sq_pos (u1 * v2 - u2 * v1)
  have hV : 0 ≤ v1 * v1 + v2 * v2 := by have := sq_pos v1; have := sq_pos v2; omega
  have hU : 0 ≤ u1 * u1 + u2 * u2 := by have := sq_pos u1; have := sq_pos u2; omega
  have le1 : (u1 * u1 + u2 * u2) * (v1 * v1 + v2 * v2) ≤ ((r + 1) * (r + 1)) * ((s + 1) * (s + 1)) := Int.mul_le_mul (by omega) (by omega) hV (by omega)
  have hpm : p ≤ m := by
    rcases lt_ge m p with h | h
    · have := sq_mono (show 0 ≤ m + 1 by omega) (show m + 1 ≤ p by omega)
      have e : (m + 1) * (m + 1) = m * m + 2 * m + 1 := by grind
      omega
    · exact h
  have id3 : (u1 + v1) * (u1 + v1) + (u2 + v2) * (u2 + v2) = (u1 * u1 + u2 * u2) + 2 * p + (v1 * v1 + v2 * v2) := by rw [hp]; grind
  have id4 : (r + s + 2) * (r + s + 2) = (r + 1) * (r + 1) + 2 * m + (s + 1) * (s + 1) := by rw [hm]; grind
  rcases lt_ge (r + s + 2) t with h | h
  · have := sq_mono (show 0 ≤ r + s + 2 by omega) (show r + s + 2 ≤ t by omega)
    omega
  · exact h
/-- A part of a way. -/
theorem ratio (r g x : Int) (hr : 0 < r) : r.natAbs * (Int.tdiv (g * x) r).natAbs ≤ g.natAbs * x.natAbs ∧ (0 ≤ g → (0 ≤ x → 0 ≤ Int.tdiv (g * x) r) ∧ (x ≤ 0 → Int.tdiv (g * x) r ≤ 0)) ∧ (g ≤ 0 → (0 ≤ x → Int.tdiv (g * x) r ≤ 0) ∧ (x ≤ 0 → 0 ≤ Int.tdiv (g * x) r)) := by
  have pos : ∀ a b : Int, 0 ≤ a → 0 ≤ b → 0 ≤ Int.tdiv (a * b) r := fun a b ha hb => Int.tdiv_nonneg (Int.mul_nonneg ha hb) (by omega)
  have n1 : ∀ a b : Int, 0 ≤ a → 0 ≤ b → Int.tdiv (-(a * b)) r ≤ 0 := fun a b ha hb => by rw [Int.neg_tdiv]; have := pos a b ha hb; omega
  refine ⟨?_, fun hg => ⟨fun hx => pos g x hg hx, fun hx => ?_⟩, fun hg => ⟨fun hx => ?_, fun hx => ?_⟩⟩
  · rw [Int.natAbs_tdiv, Int.natAbs_mul]; exact Nat.mul_div_le _ _
  · have := n1 g (-x) hg (by omega)
    rw [Int.mul_neg, Int.neg_neg] at this; exact this
  · have := n1 (-g) x (by omega) hx
    rw [Int.neg_mul, Int.neg_neg] at this; exact this
  · have := pos (-g) (-x) (by omega) (by omega)
    rw [Int.neg_mul_neg] at this; exact this
theorem ratio_sq {r g x t : Int} (h : r.natAbs * t.natAbs ≤ g.natAbs * x.natAbs) : (r * r) * (t * t) ≤ (g * g) * (x * x) := by
  have h2 := Nat.mul_le_mul h h
  have h3 : ((r.natAbs * t.natAbs * (r.natAbs * t.natAbs) : Nat) : Int) ≤ ((g.natAbs * x.natAbs * (g.natAbs * x.natAbs) : Nat) : Int) := Int.ofNat_le.mpr h2
  simp only [Int.natCast_mul] at h3
  have e1 : ((r.natAbs : Int) * (t.natAbs : Int)) * ((r.natAbs : Int) * (t.natAbs : Int)) = ((r.natAbs : Int) * (r.natAbs : Int)) * ((t.natAbs : Int) * (t.natAbs : Int)) := by grind
  have e2 : ((g.natAbs : Int) * (x.natAbs : Int)) * ((g.natAbs : Int) * (x.natAbs : Int)) = ((g.natAbs : Int) * (g.natAbs : Int)) * ((x.natAbs : Int) * (x.natAbs : Int)) := by grind
  rw [e1, e2, sq_abs, sq_abs, sq_abs, sq_abs] at h3
  exact h3
/-- c lies between 0 and d. -/
structure Btw (d c : Int) : Prop where
  up : 0 ≤ d → 0 ≤ c ∧ c ≤ d
  dn : d ≤ 0 → d ≤ c ∧ c ≤ 0
theorem Btw.abs {d c : Int} (h : Btw d c) : c.natAbs ≤ d.natAbs := by
  rcases Int.le_total 0 d with h0 | h0
  · have := h.up h0; omega
  · have := h.dn h0; omega
/-- What is clipped goes no further, and the same way. -/
theorem clip_part {a d l h : Int} (h1 : l ≤ a) (h2 : a ≤ h) : Btw d (clip (a + d) l h - a) := by
  refine ⟨fun h0 => ?_, fun h0 => ?_⟩
  · have e : clip (a + d) l h = min (a + d) h := by unfold clip; omega
    rw [e]; omega
  · have e : clip (a + d) l h = max l (a + d) := by unfold clip; omega
    rw [e]; omega
theorem abs_grow {a b : Int} (h1 : 0 ≤ a → 0 ≤ b) (h2 : a ≤ 0 → b ≤ 0) : a.natAbs ≤ (a + b).natAbs := by
  rcases Int.le_total 0 a with h | h
  · have := h1 h; clear h1 h2; omega
  · have := h2 h; clear h1 h2; omega
theorem abs_shrink {a b : Int} (h1 : 0 ≤ a → b ≤ 0) (h2 : a ≤ 0 → 0 ≤ b) (h3 : b.natAbs ≤ a.natAbs) : (a + b).natAbs ≤ a.natAbs := by
  rcases Int.le_total 0 a with h | h
  · have := h1 h; clear h1 h2; omega
  · have := h2 h; clear h1 h2; omega
theorem abs_less {r g : Int} {a b : Int} (hr : 0 < r) (hg : g.natAbs ≤ r.natAbs) (h : r.natAbs * b.natAbs ≤ g.natAbs * a.natAbs) : b.natAbs ≤ a.natAbs := by
  have h2 : g.natAbs * a.natAbs ≤ r.natAbs * a.natAbs := Nat.mul_le_mul_right _ hg
  exact Nat.le_of_mul_le_mul_left (Nat.le_trans h h2) (Int.natAbs_pos.mpr (by omega))
theorem fin_pos {w g T hd t r s : Int} (h0 : 0 ≤ g) (h1 : 4 * g ≤ w) (h2 : 0 ≤ hd) (h3 : hd ≤ T) (h4 : 4 * T ≤ g) (h5 : r ≤ t) (h6 : t ≤ r + s + 2) (h7 : s ≤ 2 * g) : -(w + 2) ≤ w - (t - r) - hd ∧ w - (t - r) - hd ≤ w + 2 := by omega
theorem fin_neg {w g T hd t r s : Int} (h0 : g ≤ 0) (h1 : w ≤ 4 * g) (h2 : hd ≤ 0) (h3 : T ≤ hd) (h4 : g ≤ 4 * T) (h5 : t ≤ r) (h6 : r ≤ t + s + 2) (h7 : s ≤ -(2 * g)) : w - 2 ≤ w - (t - r) - hd ∧ w - (t - r) - hd ≤ -w + 2 := by omega
theorem abs_le_pos {w z : Int} (h0 : 0 ≤ w) (h : -(w + 2) ≤ z ∧ z ≤ w + 2) : z.natAbs ≤ w.natAbs + 2 := by omega
theorem abs_le_neg {w z : Int} (h0 : w ≤ 0) (h : w - 2 ≤ z ∧ z ≤ -w + 2) : z.natAbs ≤ w.natAbs + 2 := by omega
theorem abs4_pos {w g : Int} (h0 : 0 ≤ w) (h1 : 0 ≤ g) (h : 4 * g.natAbs ≤ w.natAbs) : 4 * g ≤ w := by omega
theorem abs4_neg {w g : Int} (h0 : w ≤ 0) (h1 : g ≤ 0) (h : 4 * g.natAbs ≤ w.natAbs) : w ≤ 4 * g := by omega
theorem root_mono {m n r s : Int} (hr : IsRoot m r) (hs : IsRoot n s) (h : m ≤ n) : r ≤ s := by
  obtain ⟨r0, r1, r2⟩ := hr
  obtain ⟨s0, s1, s2⟩ := hs
  rcases lt_ge s r with hlt | hge
  · have := sq_mono (show 0 ≤ s + 1 by omega) (show s + 1 ≤ r by omega); omega
  · exact hge
theorem root_is (n : Int) (h : 0 ≤ n) (h' : n ≤ 4611686018427387903) : ∃ r, IsRoot n r := by
  obtain ⟨r, hr, -⟩ := i_root n h h'
  exact ⟨r, hr⟩
/-- How far a move along the line goes. -/
theorem along (r g x y p q : Int) (hr0 : 0 < r) (hx : x.natAbs ≤ 200000) (hy : y.natAbs ≤ 200000) (hg : g.natAbs ≤ 700000) (hr : IsRoot (x * x + y * y) r) (hp : p.natAbs ≤ (Int.tdiv (g * x) r).natAbs) (hq : q.natAbs ≤ (Int.tdiv (g * y) r).natAbs) : ∃ s, IsRoot (p * p + q * q) s ∧ s ≤ 2 * (g.natAbs : Int) := by
  have p1 := ratio_sq (Nat.le_trans (Nat.mul_le_mul_left r.natAbs hp) (ratio r g x hr0).1)
  have q1 := ratio_sq (Nat.le_trans (Nat.mul_le_mul_left r.natAbs hq) (ratio r g y hr0).1)
  obtain ⟨r1, r2, r3⟩ := hr
  have hG := sq_pos g
  have hS : (r * r) * (p * p + q * q) ≤ (r * r) * ((2 * (g.natAbs : Int)) * (2 * (g.natAbs : Int))) := by
    have e1 : (r * r) * (p * p + q * q) = (r * r) * (p * p) + (r * r) * (q * q) := by grind
    have e2 : (g * g) * (x * x + y * y) = (g * g) * (x * x) + (g * g) * (y * y) := by grind
    have le2 : (g * g) * (x * x + y * y) ≤ (g * g) * ((2 * r) * (2 * r)) := by
      refine Int.mul_le_mul_of_nonneg_left ?_ hG
      have := sq_mono (show 0 ≤ r + 1 by omega) (show r + 1 ≤ 2 * r by omega)
      omega
    have e3 : (g * g) * ((2 * r) * (2 * r)) = (r * r) * ((2 * (g.natAbs : Int)) * (2 * (g.natAbs : Int))) := by
      rw [← sq_abs g]; grind
    omega
  have hrr : 0 < r * r := Int.mul_pos hr0 hr0
  have hle := Int.le_of_mul_le_mul_left hS hrr
  have hsm : (2 * (g.natAbs : Int)) * (2 * (g.natAbs : Int)) ≤ 1400000 * 1400000 := sq_mono (by omega) (by omega)
  have hpn := sq_pos p
  have hqn := sq_pos q
  obtain ⟨s, hs⟩ := root_is (p * p + q * q) (by omega) (by omega)
  exact ⟨s, hs, root_le hs (by omega) hle⟩
theorem tdiv4 (g : Int) : (0 ≤ g → 0 ≤ Int.tdiv g 4 ∧ 4 * Int.tdiv g 4 ≤ g) ∧ (g ≤ 0 → Int.tdiv g 4 ≤ 0 ∧ g ≤ 4 * Int.tdiv g 4) := by
  constructor
  · intro h
    rw [Int.tdiv_eq_ediv_of_nonneg h]; omega
  · intro h
    have e : Int.tdiv g 4 = -((-g) / 4) := by rw [← Int.tdiv_eq_ediv_of_nonneg (show 0 ≤ -g by omega), Int.neg_tdiv, Int.neg_neg]
    rw [e]; omega
/-- The heart of it: a move by g along the line, clipped. -/
theorem near_line (r g x y p q hd w t : Int) (hr0 : 0 < r) (hx : x.natAbs ≤ 200000) (hy : y.natAbs ≤ 200000) (hw : w.natAbs ≤ 700000) (hr : IsRoot (x * x + y * y) r)
    (hg4 : 4 * g.natAbs ≤ w.natAbs) (hgp : 0 ≤ w → 0 ≤ g) (hgn : w ≤ 0 → g ≤ 0) (hgr : -r ≤ g)
    (hp : Btw (Int.tdiv (g * x) r) p) (hq : Btw (Int.tdiv (g * y) r) q) (hh : Btw (Int.tdiv g 4) hd)
    (ht : IsRoot ((x + p) * (x + p) + (y + q) * (y + q)) t) : (w - (t - r) - hd).natAbs ≤ w.natAbs + 2 := by
  obtain ⟨s, hs, hsl⟩ := along r g x y p q hr0 hx hy (by clear hp hq hh hr ht hx hy; omega) hr hp.abs hq.abs
  have t3 := third x y p q r s t hr hs ht
  obtain ⟨f1, f2⟩ := tdiv4 g
  obtain ⟨rx1, rx2, rx3⟩ := ratio r g x hr0
  obtain ⟨ry1, ry2, ry3⟩ := ratio r g y hr0
  rcases Int.le_total 0 w with h0 | h0
  · have hg := hgp h0
    obtain ⟨m1, m2⟩ := rx2 hg
    obtain ⟨k1, k2⟩ := ry2 hg
    have sx := sq_le (abs_grow (a := x) (b := p) (fun h => (hp.up (m1 h)).1) (fun h => (hp.dn (m2 h)).2))
    have sy := sq_le (abs_grow (a := y) (b := q) (fun h => (hq.up (k1 h)).1) (fun h => (hq.dn (k2 h)).2))
    have hge := root_mono hr ht (Int.add_le_add sx sy)
    obtain ⟨z1, z2⟩ := f1 hg
    obtain ⟨d1, d2⟩ := hh.up z1
    rw [Int.natAbs_of_nonneg hg] at hsl
    exact abs_le_pos h0 (fin_pos hg (abs4_pos h0 hg hg4) d1 d2 z2 hge t3 hsl)
  · have hg := hgn h0
    obtain ⟨m1, m2⟩ := rx3 hg
    obtain ⟨k1, k2⟩ := ry3 hg
    have hga : g.natAbs ≤ r.natAbs := by clear hp hq hh hr ht hx hy rx1 rx2 rx3 ry1 ry2 ry3 m1 m2 k1 k2 f1 f2 t3 hsl hs hw hg4; omega
    have sx := sq_le (abs_shrink (a := x) (b := p) (fun h => (hp.dn (m1 h)).2) (fun h => (hp.up (m2 h)).1) (Nat.le_trans hp.abs (abs_less hr0 hga rx1)))
    have sy := sq_le (abs_shrink (a := y) (b := q) (fun h => (hq.dn (k1 h)).2) (fun h => (hq.up (k2 h)).1) (Nat.le_trans hq.abs (abs_less hr0 hga ry1)))
    have hge := root_mono ht hr (Int.add_le_add sx sy)
    have hs' : IsRoot ((-p) * (-p) + (-q) * (-q)) s := by rw [Int.neg_mul_neg, Int.neg_mul_neg]; exact hs
    have hr' : IsRoot ((x + p + -p) * (x + p + -p) + (y + q + -q) * (y + q + -q)) r := by rw [Int.add_neg_cancel_right, Int.add_neg_cancel_right]; exact hr
    have t4 := third (x + p) (y + q) (-p) (-q) t s r ht hs' hr'
    obtain ⟨z1, z2⟩ := f2 hg
    obtain ⟨d1, d2⟩ := hh.dn z1
    have hsl' : s ≤ -(2 * g) := by
      have e : (g.natAbs : Int) = -g := Int.ofNat_natAbs_of_nonpos hg
      rw [e, Int.mul_neg] at hsl; exact hsl
    exact abs_le_neg h0 (fin_neg hg (abs4_neg h0 hg hg4) d2 d1 z2 hge t4 hsl')
/-- Behind a move one is not more wrong. -/
theorem near (ax ay ah ae bx by_ bh be trip turn r c1 c2 c3 c4 t : Int) (oa : coordOk ax ay ah ae = true) (ob : coordOk bx by_ bh be = true) (ht1 : 1 ≤ trip) (ht2 : trip ≤ 60000)
    (hr : IsRoot ((ax - bx) * (ax - bx) + (ay - by_) * (ay - by_)) r) (hrl : r ≤ 400000) (hc : mvF ax ay ah ae bx by_ bh be trip turn r = (c1, c2, c3, c4)) (ht : IsRoot ((c1 - bx) * (c1 - bx) + (c2 - by_) * (c2 - by_)) t) :
    (trip - (t + c3 + bh)).natAbs ≤ (trip - (r + ah + bh)).natAbs + 2 := by
  obtain ⟨a1, a2, a3, a4⟩ := (coordOk_iff _ _ _ _).mp oa
  obtain ⟨b1, b2, b3, b4⟩ := (coordOk_iff _ _ _ _).mp ob
  obtain ⟨w, hw⟩ : ∃ w, w = trip - (r + ah + bh) := ⟨_, rfl⟩
  obtain ⟨f, hf⟩ : ∃ f, f = mforce w ae (ae + be) := ⟨_, rfl⟩
  have r0 := hr.1
  obtain ⟨fb1, fb2, fb3⟩ := force_bd w ae (ae + be) (by omega) (by omega)
  rw [← hf] at fb1 fb2 fb3
  unfold mvF at hc
  rw [← hw, ← hf] at hc
  have e3 : trip - (t + c3 + bh) = w - (t - r) - (c3 - ah) := by omega
  rw [← hw, e3]
  by_cases hr0 : r > 0
  · rw [if_pos hr0] at hc
    obtain ⟨g, hg⟩ : ∃ g, g = max f (-r) := ⟨_, rfl⟩
    rw [← hg] at hc
    unfold mfin at hc
    simp only [Prod.mk.injEq] at hc
    obtain ⟨q1, q2, q3, -⟩ := hc
    have k1 := clip_part (a := ax) (d := Int.tdiv (g * (ax - bx)) r) a1.1 a1.2
    have k2 := clip_part (a := ay) (d := Int.tdiv (g * (ay - by_)) r) a2.1 a2.2
    have k3 := clip_part (a := ah) (d := Int.tdiv g 4) a3.1 a3.2
    rw [q1] at k1
    rw [q2] at k2
    rw [q3] at k3
    have e1 : c1 - bx = (ax - bx) + (c1 - ax) := by omega
    have e2 : c2 - by_ = (ay - by_) + (c2 - ay) := by omega
    rw [e1, e2] at ht
    have hm : ∀ f g r w : Int, 0 < r → g = max f (-r) → 4 * f.natAbs ≤ w.natAbs → (0 ≤ w → 0 ≤ f) → (w ≤ 0 → f ≤ 0) → 4 * g.natAbs ≤ w.natAbs ∧ (0 ≤ w → 0 ≤ g) ∧ (w ≤ 0 → g ≤ 0) ∧ -r ≤ g := by
      intro f g r w h1 h2 h3 h4 h5
      subst h2
      refine ⟨?_, fun h => by have := h4 h; omega, fun h => by have := h5 h; omega, by omega⟩
      rcases Int.le_total 0 w with h | h
      · have := h4 h; rw [show max f (-r) = f by omega]; exact h3
      · have := h5 h
        rcases Int.le_total f (-r) with h6 | h6
        · rw [show max f (-r) = -r by omega]; omega
        · rw [show max f (-r) = f by omega]; exact h3
    obtain ⟨hg4, hgp, hgn, hgr⟩ := hm f g r w hr0 hg fb1 fb2 fb3
    exact near_line r g (ax - bx) (ay - by_) (c1 - ax) (c2 - ay) (c3 - ah) w t hr0 (by clear fb1 fb2 fb3 k1 k2 k3 hg4 hgp hgn hgr hm hr ht; omega) (by clear fb1 fb2 fb3 k1 k2 k3 hg4 hgp hgn hgr hm hr ht; omega) (by clear fb1 fb2 fb3 k1 k2 k3 hg4 hgp hgn hgr hm hr ht; omega) hr hg4 hgp hgn hgr k1 k2 k3 ht
  · rw [if_neg hr0] at hc
    obtain rfl : r = 0 := by clear fb1 fb2 fb3; omega
    have hz : ax - bx = 0 ∧ ay - by_ = 0 := by
      have h2 := hr.2.2
      have n1 := sq_pos (ax - bx)
      have n2 := sq_pos (ay - by_)
      clear fb1 fb2 fb3
      have z1 : (ax - bx) * (ax - bx) = 0 := by omega
      have z2 : (ay - by_) * (ay - by_) = 0 := by omega
      exact ⟨by rcases Int.mul_eq_zero.mp z1 with h | h <;> exact h, by rcases Int.mul_eq_zero.mp z2 with h | h <;> exact h⟩
    have k3 := clip_part (a := ah) (d := Int.tdiv f 4) a3.1 a3.2
    obtain ⟨d1, d2⟩ := tdiv4 f
    by_cases hlt : f < 0
    · rw [if_pos hlt] at hc
      unfold mfin at hc
      simp only [Prod.mk.injEq, Int.mul_zero, Int.zero_tdiv, Int.add_zero] at hc
      obtain ⟨q1, q2, q3, -⟩ := hc
      rw [q3] at k3
      have cin : ∀ a l h : Int, l ≤ a → a ≤ h → clip a l h = a := by intro a l h h1 h2; unfold clip; omega
      rw [cin ax _ _ a1.1 a1.2] at q1
      rw [cin ay _ _ a2.1 a2.2] at q2
      rw [← q1, ← q2] at ht
      obtain rfl := ht.uniq hr
      have hw0 : w ≤ 0 := by
        rcases lt_ge 0 w with h | h
        · have := fb2 (Int.le_of_lt h); clear fb1 fb2 fb3; omega
        · exact h
      obtain ⟨z1, z2⟩ := d2 (Int.le_of_lt hlt)
      obtain ⟨y1, y2⟩ := k3.dn z1
      have hf0 := Int.le_of_lt hlt
      exact abs_le_neg hw0 (fin_neg (s := 0) hf0 (abs4_neg hw0 hf0 fb1) y2 y1 z2 (Int.le_refl _) (by clear fb1 fb2 fb3; omega) (by clear fb1 fb2 fb3; omega))
    · rw [if_neg hlt] at hc
      unfold mfin at hc
      simp only [Prod.mk.injEq, Int.tdiv_one] at hc
      obtain ⟨q1, q2, q3, -⟩ := hc
      rw [q3] at k3
      have hf0 : 0 ≤ f := by clear fb1 fb2 fb3; omega
      have hxy : ((away turn).1.natAbs = 1 ∧ (away turn).2 = 0) ∨ ((away turn).1 = 0 ∧ (away turn).2.natAbs = 1) := by
        unfold away
        split
        · exact .inl ⟨rfl, rfl⟩
        · split
          · exact .inr ⟨rfl, rfl⟩
          · split
            · exact .inl ⟨rfl, rfl⟩
            · exact .inr ⟨rfl, rfl⟩
      have k1 := (clip_part (a := ax) (d := f * (away turn).1) a1.1 a1.2).abs
      have k2 := (clip_part (a := ay) (d := f * (away turn).2) a2.1 a2.2).abs
      rw [q1] at k1
      rw [q2] at k2
      have htl : t ≤ f := by
        refine root_le ht hf0 ?_
        have e1 : c1 - bx = c1 - ax := by have := hz.1; clear fb1 fb2 fb3 k1 k2; omega
        have e2 : c2 - by_ = c2 - ay := by have := hz.2; clear fb1 fb2 fb3 k1 k2; omega
        rw [e1, e2]
        rcases hxy with ⟨h1, h2⟩ | ⟨h1, h2⟩
        · have m1 : (f * (away turn).1).natAbs = f.natAbs := by rw [Int.natAbs_mul, h1, Nat.mul_one]
          rw [h2, Int.mul_zero] at k2
          have z : c2 - ay = 0 := Int.natAbs_eq_zero.mp (Nat.le_zero.mp k2)
          have s1 := sq_le (a := c1 - ax) (b := f) (m1 ▸ k1)
          rw [z, Int.mul_zero, Int.add_zero]; exact s1
        · have m1 : (f * (away turn).2).natAbs = f.natAbs := by rw [Int.natAbs_mul, h2, Nat.mul_one]
          rw [h1, Int.mul_zero] at k1
          have z : c1 - ax = 0 := Int.natAbs_eq_zero.mp (Nat.le_zero.mp k1)
          have s1 := sq_le (a := c2 - ay) (b := f) (m1 ▸ k2)
          rw [z, Int.mul_zero, Int.zero_add]; exact s1
      have t0 := ht.1
      obtain ⟨z1, z2⟩ := d1 hf0
      obtain ⟨y1, y2⟩ := k3.up z1
      rcases lt_ge w 0 with h | h
      · have f00 := fb3 (Int.le_of_lt h)
        obtain rfl : f = 0 := by clear fb1 fb2 fb3 k1 k2; omega
        have zz : Int.tdiv 0 4 = 0 := by decide
        rw [zz] at y2
        exact abs_le_neg (Int.le_of_lt h) (fin_neg (g := 0) (s := 0) (T := 0) (Int.le_refl _) (by clear fb1 fb2 fb3 k1 k2; omega) y2 y1 (by decide) htl (by clear fb1 fb2 fb3 k1 k2; omega) (by decide))
      · exact abs_le_pos h (fin_pos (s := f) hf0 (abs4_pos h hf0 fb1) y1 y2 z2 t0 (by clear fb1 fb2 fb3 k1 k2; omega) (by clear fb1 fb2 fb3 k1 k2; omega))
theorem FnCoordNear : laws_FnCoordNear.Pure := by
  intro l0 hl1 hl2 hl3
  obtain ⟨ax, ay, ah, ae, bx, by_, bh, be, trip, turn, ht1, ht2, hd⟩ := move_drawn l0 hl3

  by_cases hok : coordOk ax ay ah ae = true ∧ coordOk bx by_ bh be = true ∧ 1 ≤ trip ∧ trip ≤ 60000
  · obtain ⟨oa, ob, d1, d2⟩ := hok
    obtain ⟨r, hr, hrl, K1, hK1⟩ := moves_ok ax ay ah ae bx by_ bh be trip turn oa ob ⟨d1, d2⟩
    obtain ⟨c1, hc1⟩ : ∃ c, c = (mvF ax ay ah ae bx by_ bh be trip turn r).1 := ⟨_, rfl⟩
    obtain ⟨c2, hc2⟩ : ∃ c, c = (mvF ax ay ah ae bx by_ bh be trip turn r).2.1 := ⟨_, rfl⟩
    obtain ⟨c3, hc3⟩ : ∃ c, c = (mvF ax ay ah ae bx by_ bh be trip turn r).2.2.1 := ⟨_, rfl⟩
    obtain ⟨c4, hc4⟩ : ∃ c, c = (mvF ax ay ah ae bx by_ bh be trip turn r).2.2.2 := ⟨_, rfl⟩
    have hmv : mvF ax ay ah ae bx by_ bh be trip turn r = (c1, c2, c3, c4) := by rw [hc1, hc2, hc3, hc4]
    have oc := mv_ok ax ay ah ae bx by_ bh be trip turn r
    rw [hmv] at oc hK1
    clear hc1 hc2 hc3 hc4
    replace oc : coordOk c1 c2 c3 c4 = true := oc
    obtain ⟨d, ⟨K2, hK2⟩, g1, -⟩ := dists ax ay ah ae bx by_ bh be
    obtain ⟨d', ⟨K3, hK3⟩, g2, -⟩ := dists c1 c2 c3 c4 bx by_ bh be
    obtain ⟨r', hr', hrl', hd1⟩ := g1 oa ob
    obtain rfl : r' = r := hr'.uniq hr
    obtain ⟨t, ht, htl, hd2⟩ := g2 oc ob
    have hn := near ax ay ah ae bx by_ bh be trip turn r' c1 c2 c3 c4 t oa ob d1 d2 hr hrl hmv ht
    obtain ⟨a1, a2, a3, a4⟩ := (coordOk_iff _ _ _ _).mp oa
    obtain ⟨b1, b2, b3, b4⟩ := (coordOk_iff _ _ _ _).mp ob
    obtain ⟨e1, e2, e3, e4⟩ := (coordOk_iff _ _ _ _).mp oc
    have r0 := hr.1
    have t0 := ht.1
    rw [← hd1, ← hd2] at hn
    obtain ⟨K, hK⟩ : ∃ K, K = max K1 (max K2 K3) := ⟨_, rfl⟩
    refine ⟨K + 2 + 1, ?_⟩
    simp only [laws_FnCoordNear.f]
    by_cases h0 : (l0.length : Int) > 1048576
    · rw [if_pos h0]
    · rw [if_neg h0]
      obtain ⟨u, hu⟩ : ∃ u, u = (trip - d).natAbs := ⟨_, rfl⟩
      obtain ⟨v, hv⟩ : ∃ v, v = (trip - d').natAbs := ⟨_, rfl⟩
      rw [← hu, ← hv] at hn
      have B1 : -700000 ≤ trip - d ∧ trip - d ≤ 700000 := by clear hn hu hv hK; omega
      have B2 : -700000 ≤ trip - d' ∧ trip - d' ≤ 700000 := by clear hn hu hv hK; omega
      have B3 : u ≤ 700000 := by rw [hu]; clear hn hu hv hK a1 a2 a3 a4 b1 b2 b3 b4 e1 e2 e3 e4 B2; omega
      clear hd1 hd2
      have w1 : wrap64 (trip - d) = trip - d := w64 (by omega) (by omega)
      have w2 : wrap64 (trip - d') = trip - d' := w64 (by omega) (by omega)
      have w3 : wrap64 ((u : Int) + 2) = (u : Int) + 2 := w64 (by omega) (by omega)
      have hli : laws_lhIn.f trip 1 60000 = some true := by simp only [laws_lhIn.f]; rw [if_pos d1, decide_eq_true d2]
      simp only [hd (K + 2 + 1) (by omega), (hK1 (K + 2 + 1) (by omega)).1, (hK1 (K + 2 + 1) (by omega)).2, Option.bind_some, same4, s_coordOk, oa, ob, if_true, hli, Bool.not_true, laws_FnCoordNear.j0, (hK2 (K + 2) (by omega)).2, (hK3 (K + 2) (by omega)).2, w1, w2]
      rw [if_neg (by decide), if_neg (by decide), abs_some (trip - d) (by omega) (by omega), abs_some (trip - d') (by omega) (by omega), ← hu, ← hv]
      simp only [Option.bind_some, w3]
      have hz : (v : Int) ≤ (u : Int) + 2 := by have := Int.ofNat_le.mpr hn; rwa [Int.natCast_add] at this
      rw [decide_eq_true hz]
  · obtain ⟨c1, c2, c3, c4, K, hK⟩ := moves ax ay ah ae bx by_ bh be trip turn
    have most : laws_FnCoordNear.j0 (K + 2 + 1) trip turn true ax ay ah ae bx by_ bh be c1 c2 c3 c4 = some true := by
      simp only [laws_FnCoordNear.j0, (hK (K + 2) (by omega)).1, Option.bind_some, same4', if_true]
    refine ⟨K + 2 + 1, ?_⟩
    simp only [laws_FnCoordNear.f]
    by_cases h0 : (l0.length : Int) > 1048576
    · rw [if_pos h0]
    · rw [if_neg h0]
      simp only [hd (K + 2 + 1) (by omega), (hK (K + 2 + 1) (by omega)).1, (hK (K + 2 + 1) (by omega)).2, Option.bind_some, same4, s_coordOk]
      rw [if_neg (by decide)]
      by_cases oa : coordOk ax ay ah ae = true
      · rw [if_pos oa]
        by_cases ob : coordOk bx by_ bh be = true
        · rw [if_pos ob]
          have hli : laws_lhIn.f trip 1 60000 = some false := by
            simp only [laws_lhIn.f]
            by_cases h1 : trip ≥ 1
            · rw [if_pos h1, decide_eq_false (fun h2 => hok ⟨oa, ob, h1, h2⟩)]
            · rw [if_neg h1]
          simp only [hli, Option.bind_some, Bool.not_false]
          exact most
        · rw [if_neg ob]; exact most
      · rw [if_neg oa]; exact most
end Go.Proofs.Ytbpapiejmedkeaa.Pure
