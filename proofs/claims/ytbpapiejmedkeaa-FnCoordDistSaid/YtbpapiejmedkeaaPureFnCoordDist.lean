/- Of three drawn coordinates: it is as far there as back, at least both heights, and the way is not more than by a third one, but for what is cut off. Conditions: the bytes' number is within the row's reach. -/
import Derived.Test.YtbpapiejmedkeaaPFnCoordDistx
set_option linter.unusedVariables false
set_option linter.unusedSimpArgs false
namespace Go.Proofs.Ytbpapiejmedkeaa.Pure
open Go.RowKit Go.Proofs.Ytbpapiejmedkeaa.PFnCoordDist Go.Proofs.YtbpapiejmedkeaaW.PrintWords Go.Proofs.YtbpapiejmedkeaaW.PrintLast Go.Proofs.YtbpapiejmedkeaaW.PrintMore
theorem w64 {n : Int} (h : -9223372036854775808 ≤ n) (h' : n ≤ 9223372036854775807) : wrap64 n = n := by unfold wrap64; omega
theorem lt_ge (a b : Int) : a < b ∨ b ≤ a := by omega
/-! drawing -/
theorem i64_xor (a b : Int) (h1 : 0 ≤ a) (h2 : a < 9223372036854775808) (h3 : 0 ≤ b) (h4 : b < 9223372036854775808) : Go.bits .xor .i64 a b = ((a.toNat ^^^ b.toNat : Nat) : Int) := by
  obtain ⟨a, rfl⟩ := Int.eq_ofNat_of_zero_le h1
  obtain ⟨b, rfl⟩ := Int.eq_ofNat_of_zero_le h3
  have ha' : a % 2 ^ IntKind.i64.bits = a := Nat.mod_eq_of_lt (by show a < 2 ^ 64; omega)
  have hb' : b % 2 ^ IntKind.i64.bits = b := Nat.mod_eq_of_lt (by show b < 2 ^ 64; omega)
  have hx : a ^^^ b < 2 ^ 63 := Nat.xor_lt_two_pow (by omega) (by omega)
  simp only [Go.bits, BitVec.ofInt_natCast, BitVec.toNat_xor, BitVec.toNat_ofNat, ha', hb', Int.toNat_natCast]
  rw [IntKind.wrap_i64]
  omega
/-- The reader's bytes and its place. -/
def Rdr (b : List Int) (p : Int) : Prop := (∀ x ∈ b, 0 ≤ x ∧ x ≤ 255) ∧ b.length ≤ 2000 ∧ 0 ≤ p
theorem rd_byte {b : List Int} (h : ∀ x ∈ b, 0 ≤ x ∧ x ≤ 255) (i : Int) : 0 ≤ rd b i ∧ rd b i ≤ 255 := by
  unfold rd
  rw [List.getD_eq_getElem?_getD]
  rcases hq : b[i.toNat]? with _ | x
  · simp
  · exact h x (List.mem_of_getElem? hq)
theorem tmod_bd {a n : Int} (ha : 0 ≤ a) (hn : 0 < n) : 0 ≤ Int.tmod a n ∧ Int.tmod a n < n := ⟨Int.tmod_nonneg _ ha, Int.tmod_lt_of_pos _ hn⟩
theorem pick_ok (b : List Int) (p n : Int) (hR : Rdr b p) (hp : p ≤ 1000000) : ∃ v, 0 ≤ v ∧ (0 < n → v < n) ∧ (n < 1 → v = 0) ∧ ∀ k, 1 ≤ k → spec_l1Rd_pick.f k b p n = some (v, p + 1) := by
  obtain ⟨hb, hl, h0⟩ := hR
  have e1 : wrap64 (p + 1) = p + 1 := w64 (by omega) (by omega)
  by_cases hn : n < 1
  · refine ⟨0, by omega, by omega, fun _ => rfl, fun k hk => ?_⟩
    obtain ⟨k, rfl⟩ : ∃ m, k = m + 1 := ⟨k - 1, by omega⟩
    simp only [spec_l1Rd_pick.f, spec_l1Rd_pick.j0]
    rw [if_pos hn, if_pos trivial, e1]
  · have e2 : wrap64 (p + 1 - 1) = p := by rw [w64 (by omega) (by omega)]; omega
    by_cases hz : b.length = 0
    · refine ⟨0, by omega, by omega, fun _ => rfl, fun k hk => ?_⟩
      obtain ⟨k, rfl⟩ : ∃ m, k = m + 1 := ⟨k - 1, by omega⟩
      simp only [spec_l1Rd_pick.f, spec_l1Rd_pick.j0]
      rw [if_neg hn, if_pos (beq_iff_eq.mpr (by omega)), e1]
    · have hz' : ((b.length : Int) == 0) = false := beq_eq_false_iff_ne.mpr (by omega)
      by_cases hlt : p < (b.length : Int)
      · obtain ⟨r1, r2⟩ := rd_byte hb p
        obtain ⟨m1, m2⟩ := tmod_bd r1 (show 0 < n by omega)
        refine ⟨Int.tmod (rd b p) n, m1, fun _ => m2, by omega, fun k hk => ?_⟩
        obtain ⟨k, rfl⟩ : ∃ m, k = m + 1 := ⟨k - 1, by omega⟩
        simp only [spec_l1Rd_pick.f, spec_l1Rd_pick.j0, hz', e1, e2]
        rw [if_neg hn, if_neg (by decide), if_pos hlt, if_pos h0, if_neg (by omega), w64 (n := rd b p) (by omega) (by omega)]
      · have e3 : wrap64 (p * 7) = p * 7 := w64 (by omega) (by omega)
        have e4 : wrap64 (p * 7 + 3) = p * 7 + 3 := w64 (by omega) (by omega)
        have e5 : wrap64 (p * 29) = p * 29 := w64 (by omega) (by omega)
        obtain ⟨i, hi⟩ : ∃ i, i = Int.tmod p (b.length : Int) := ⟨_, rfl⟩
        obtain ⟨j, hj⟩ : ∃ j, j = Int.tmod (p * 7 + 3) (b.length : Int) := ⟨_, rfl⟩
        obtain ⟨i1, i2⟩ := tmod_bd h0 (show 0 < (b.length : Int) by omega)
        obtain ⟨j1, j2⟩ := tmod_bd (show 0 ≤ p * 7 + 3 by omega) (show 0 < (b.length : Int) by omega)
        rw [← hi] at i1 i2
        rw [← hj] at j1 j2
        obtain ⟨a1, a2⟩ := rd_byte hb i
        obtain ⟨c1, c2⟩ := rd_byte hb j
        obtain ⟨q, hq⟩ : ∃ q, q = Int.tdiv p (b.length : Int) := ⟨_, rfl⟩
        have q1 : 0 ≤ q ∧ q ≤ p := by
          rw [hq, Int.tdiv_eq_ediv_of_nonneg h0]
          exact ⟨Int.ediv_nonneg h0 (by omega), Int.ediv_le_self _ h0⟩
        have f1 : wrap64 (rd b i) = rd b i := w64 (by omega) (by omega)
        have f2 : wrap64 (rd b j) = rd b j := w64 (by omega) (by omega)
        have f3 : wrap64 (rd b i * 131) = rd b i * 131 := w64 (by omega) (by omega)
        have f4 : wrap64 (rd b j * 1117) = rd b j * 1117 := w64 (by omega) (by omega)
        have f5 : wrap64 q = q := w64 (by omega) (by omega)
        have f6 : wrap64 (q * 53) = q * 53 := w64 (by omega) (by omega)
        have f7 : wrap64 (rd b i * 131 + rd b j * 1117) = rd b i * 131 + rd b j * 1117 := w64 (by omega) (by omega)
        have f8 : wrap64 (rd b i * 131 + rd b j * 1117 + p * 29) = rd b i * 131 + rd b j * 1117 + p * 29 := w64 (by omega) (by omega)
        obtain ⟨x, hx⟩ : ∃ x, x = rd b i * 131 + rd b j * 1117 + p * 29 + q * 53 := ⟨_, rfl⟩
        have f9 : wrap64 (rd b i * 131 + rd b j * 1117 + p * 29 + q * 53) = x := by rw [hx]; exact w64 (by omega) (by omega)
        have x1 : 0 ≤ x := by omega
        have x2 : x ≤ 100000000 := by omega
        have f10 : wrap64 (Int.tdiv x 64) = x / 64 := by rw [Int.tdiv_eq_ediv_of_nonneg x1]; exact w64 (by omega) (by omega)
        have f11 := i64_xor x (x / 64) x1 (by omega) (by omega) (by omega)
        obtain ⟨m1, m2⟩ := tmod_bd (Int.natCast_nonneg (x.toNat ^^^ (x / 64).toNat)) (show 0 < n by omega)
        refine ⟨Int.tmod ((x.toNat ^^^ (x / 64).toNat : Nat) : Int) n, m1, fun _ => m2, by omega, fun k hk => ?_⟩
        obtain ⟨k, rfl⟩ : ∃ m, k = m + 1 := ⟨k - 1, by omega⟩
        simp only [spec_l1Rd_pick.f, spec_l1Rd_pick.j0, hz', e1, e2, e3, e4, e5, ← hi, ← hj, ← hq, f1, f2, f3, f4, f5, f6, f7, f8, f9, f10, f11]
        rw [if_neg hn, if_neg (by decide), if_neg hlt, if_neg (by omega), if_pos i1, if_pos i2, if_pos j1, if_pos j2, if_neg (by omega)]
theorem rdr_next {b : List Int} {p : Int} (h : Rdr b p) : Rdr b (p + 1) := ⟨h.1, h.2.1, by have := h.2.2; omega⟩
theorem open_ok (l : List Int) (hl : ∀ x ∈ l, (Lit.int .u8 x).wf = true) : ∃ b, Rdr b 0 ∧ spec_l1Open.f l = some (b, 0) := by
  have hw : ∀ x ∈ l, 0 ≤ x ∧ x ≤ 255 := by
    intro x hx
    have := hl x hx
    have h2 := (Bool.and_eq_true _ _).mp this
    have h3 := of_decide_eq_true h2.1
    have h4 := of_decide_eq_true h2.2
    exact ⟨h3, h4⟩
  simp only [spec_l1Open.f]
  by_cases h : (l.length : Int) > 2000
  · rw [if_pos h, if_pos (by omega)]
    exact ⟨l.take 2000, ⟨fun x hx => hw x (List.mem_of_mem_take hx), by rw [List.length_take]; omega, by omega⟩, rfl⟩
  · rw [if_neg h]
    exact ⟨l, ⟨hw, by omega, by omega⟩, rfl⟩
/-! the clamp -/
def cl (a : Int) : Int := max (-1000000000) (min a 1000000000)
theorem cl_bd (a : Int) : -1000000000 ≤ cl a ∧ cl a ≤ 1000000000 := by unfold cl; omega
theorem cl_in {a : Int} (h : -1000000000 ≤ a) (h' : a ≤ 1000000000) : cl a = a := by unfold cl; omega
theorem s_cl (a : Int) : spec_FixClamp.f a = some (cl a) := by
  simp only [spec_FixClamp.f, spec_l1Box.f, cl]
  by_cases h1 : a < -1000000000
  · rw [if_pos h1]; simp only [Option.bind_some]; congr 1; omega
  · rw [if_neg h1]
    by_cases h2 : a > 1000000000
    · rw [if_pos h2]; simp only [Option.bind_some]; congr 1; omega
    · rw [if_neg h2]; simp only [Option.bind_some]; congr 1; omega
theorem i_cl (a : Int) : impl_FixClamp.f a = some (cl a) := by
  simp only [impl_FixClamp.f, impl_clamp.f, cl, Option.bind_some, mx, mn]
  congr 1
  split <;> split <;> omega
/-! roots -/
def IsRoot (n r : Int) : Prop := 0 ≤ r ∧ r * r ≤ n ∧ n < (r + 1) * (r + 1)
theorem sq_mono {a b : Int} (h0 : 0 ≤ a) (h : a ≤ b) : a * a ≤ b * b := Int.mul_le_mul h h h0 (by omega)
theorem IsRoot.uniq {n r s : Int} (h : IsRoot n r) (h' : IsRoot n s) : r = s := by
  obtain ⟨a, b, c⟩ := h
  obtain ⟨a', b', c'⟩ := h'
  rcases Int.lt_trichotomy r s with hlt | heq | hgt
  · have := sq_mono (show 0 ≤ r + 1 by omega) (show r + 1 ≤ s by omega); omega
  · exact heq
  · have := sq_mono (show 0 ≤ s + 1 by omega) (show s + 1 ≤ r by omega); omega
theorem i_root_loop (n : Int) (d : Nat) : ∀ (k : Nat) (lo hi : Int), 0 ≤ lo → lo < hi → hi ≤ 2147483648 → lo * lo ≤ n → n < hi * hi → hi - lo ≤ d → d < k →
    ∃ r, IsRoot n r ∧ impl_root.l0 k n lo hi = some r := by
  induction d with
  | zero => intro k lo hi h0 h1 h2 h3 h4 h5 h6; omega
  | succ d ih =>
    intro k lo hi h0 h1 h2 h3 h4 h5 h6
    obtain ⟨k, rfl⟩ : ∃ m, k = m + 1 := ⟨k - 1, by omega⟩
    simp only [impl_root.l0]
    by_cases hc : hi - lo > 1
    · have e1 : wrap64 (hi - lo) = hi - lo := w64 (by omega) (by omega)
      have e2 : wrap64 (lo + hi) = lo + hi := w64 (by omega) (by omega)
      obtain ⟨m, hm⟩ : ∃ m, m = (lo + hi) / 2 := ⟨_, rfl⟩
      have e3 : wrap64 (Int.tdiv (lo + hi) 2) = m := by
        rw [Int.tdiv_eq_ediv_of_nonneg (by omega), ← hm]; exact w64 (by omega) (by omega)
      have hb := sq_mono (show 0 ≤ m by omega) (show m ≤ 2147483648 by omega)
      have hb0 := Int.mul_nonneg (show 0 ≤ m by omega) (show 0 ≤ m by omega)
      have e4 : wrap64 (m * m) = m * m := w64 (by omega) (by omega)
      rw [e1, if_pos hc, e2, e3, e4]
      by_cases ht : m * m ≤ n
      · rw [if_pos ht]; exact ih k m hi (by omega) (by omega) (by omega) ht h4 (by omega) (by omega)
      · rw [if_neg ht]; exact ih k lo m (by omega) (by omega) (by omega) h3 (by omega) (by omega) (by omega)
    · have e1 : wrap64 (hi - lo) = hi - lo := w64 (by omega) (by omega)
      rw [e1, if_neg hc]
      obtain rfl : hi = lo + 1 := by omega
      exact ⟨lo, ⟨h0, h3, h4⟩, rfl⟩
theorem i_root (n : Int) (h0 : 0 ≤ n) (h1 : n ≤ 4611686018427387903) : ∃ r, IsRoot n r ∧ Ev (fun k => impl_root.f k n) r := by
  obtain ⟨r, hr, h⟩ := i_root_loop n 2147483648 2147483649 0 2147483648 (by omega) (by omega) (by omega) (by omega) (by omega) (by omega) (by omega)
  exact ⟨r, hr, Ev.of (fun k => impl_root.mono _ _) (k := 2147483649) h⟩
theorem s_root_loop (n : Int) (hn : 0 ≤ n) (hn' : n ≤ 4611686018427387903) (d : Nat) : ∀ (k : Nat) (lo hi : Int), 0 ≤ lo → lo ≤ hi → hi ≤ 2147483647 → lo * lo ≤ n → n < (hi + 1) * (hi + 1) → hi - lo ≤ d → d < k →
    ∃ r, IsRoot n r ∧ spec_l1Root.l0 k n lo hi = some r := by
  induction d with
  | zero =>
    intro k lo hi h0 h1 h2 h3 h4 h5 h6
    obtain ⟨k, rfl⟩ : ∃ m, k = m + 1 := ⟨k - 1, by omega⟩
    simp only [spec_l1Root.l0]
    rw [if_neg (by omega)]
    obtain rfl : hi = lo := by omega
    exact ⟨hi, ⟨h0, h3, h4⟩, rfl⟩
  | succ d ih =>
    intro k lo hi h0 h1 h2 h3 h4 h5 h6
    obtain ⟨k, rfl⟩ : ∃ m, k = m + 1 := ⟨k - 1, by omega⟩
    simp only [spec_l1Root.l0]
    by_cases hc : lo < hi
    · have e2 : wrap64 (lo + hi) = lo + hi := w64 (by omega) (by omega)
      have e2' : wrap64 (lo + hi + 1) = lo + hi + 1 := w64 (by omega) (by omega)
      obtain ⟨m, hm⟩ : ∃ m, m = (lo + hi + 1) / 2 := ⟨_, rfl⟩
      have e3 : wrap64 (Int.tdiv (lo + hi + 1) 2) = m := by
        rw [Int.tdiv_eq_ediv_of_nonneg (by omega), ← hm]; exact w64 (by omega) (by omega)
      have hm0 : 0 < m := by omega
      have hdn : 0 ≤ n / m := Int.ediv_nonneg hn (by omega)
      have hdn' : n / m ≤ n := Int.ediv_le_self _ hn
      have e4 : wrap64 (Int.tdiv n m) = n / m := by
        rw [Int.tdiv_eq_ediv_of_nonneg hn]; exact w64 (by omega) (by omega)
      have e5 : wrap64 (m - 1) = m - 1 := w64 (by omega) (by omega)
      have hiff : m ≤ n / m ↔ m * m ≤ n := Int.le_ediv_iff_mul_le hm0
      rw [if_pos hc, e2, e2', e3, if_neg (by omega), e4]
      by_cases ht : m * m ≤ n
      · rw [if_pos (hiff.2 ht)]; exact ih k m hi (by omega) (by omega) (by omega) ht h4 (by omega) (by omega)
      · rw [if_neg (fun h => ht (hiff.1 h)), e5]
        refine ih k lo (m - 1) (by omega) (by omega) (by omega) h3 ?_ (by omega) (by omega)
        rw [Int.sub_add_cancel]; omega
    · rw [if_neg hc]
      obtain rfl : hi = lo := by omega
      exact ⟨hi, ⟨h0, h3, h4⟩, rfl⟩
theorem s_root (n : Int) (h0 : 0 ≤ n) (h1 : n < 2250000003000000001) : ∃ r, IsRoot n r ∧ Ev (fun k => spec_l1Root.f k n) r := by
  obtain ⟨r, hr, h⟩ := s_root_loop n h0 (by omega) 1500000000 1500000001 0 1500000000 (by omega) (by omega) (by omega) (by omega) (by omega) (by omega) (by omega)
  exact ⟨r, hr, Ev.of (fun k => spec_l1Root.mono _ _) (k := 1500000001) h⟩
/-- Both roots are the root. -/
theorem roots (n : Int) (h0 : 0 ≤ n) (h1 : n < 2250000003000000001) : ∃ r, IsRoot n r ∧ Ev (fun k => spec_l1Root.f k n) r ∧ Ev (fun k => impl_root.f k n) r := by
  obtain ⟨r, hr, h⟩ := s_root n h0 h1
  obtain ⟨s, hs, h'⟩ := i_root n h0 (by omega)
  obtain rfl := hr.uniq hs
  exact ⟨r, hr, h, h'⟩
theorem sq_bd {a : Int} (h : -1000000000 ≤ a ∧ a ≤ 1000000000) : 0 ≤ a * a ∧ a * a ≤ 1000000000000000000 := by
  obtain ⟨h1, h2⟩ := h
  rcases Int.le_total 0 a with h0 | h0
  · exact ⟨Int.mul_nonneg h0 h0, by have := sq_mono h0 h2; omega⟩
  · have e : a * a = (-a) * (-a) := by rw [Int.neg_mul_neg]
    rw [e]
    exact ⟨Int.mul_nonneg (by omega) (by omega), by have := sq_mono (show 0 ≤ -a by omega) (show -a ≤ 1000000000 by omega); omega⟩
theorem sum_bd (a b : Int) : 0 ≤ cl a * cl a + cl b * cl b ∧ cl a * cl a + cl b * cl b ≤ 2000000000000000000 ∧ wrap64 (wrap64 (cl a * cl a) + wrap64 (cl b * cl b)) = cl a * cl a + cl b * cl b := by
  have ha := sq_bd (cl_bd a)
  have hb := sq_bd (cl_bd b)
  refine ⟨by omega, by omega, ?_⟩
  rw [w64 (n := cl a * cl a) (by omega) (by omega), w64 (n := cl b * cl b) (by omega) (by omega)]
  exact w64 (by omega) (by omega)
/-- Both norms, however many rounds. -/
theorem norms (x y : Int) : ∃ r, IsRoot (cl x * cl x + cl y * cl y) r ∧ ∃ K, ∀ k, K ≤ k → spec_FixNorm.f k x y = some (cl r) ∧ impl_FixNorm.f k x y = some (cl r) := by
  obtain ⟨h0, h1, hw⟩ := sum_bd x y
  obtain ⟨r, hr, ⟨K1, e1⟩, ⟨K2, e2⟩⟩ := roots _ h0 (by omega)
  refine ⟨r, hr, max K1 K2, fun k hk => ⟨?_, ?_⟩⟩
  · have e := e1 k (by omega)
    dsimp only at e
    simp only [spec_FixNorm.f, s_cl, Option.bind_some, hw, e]
  · have e := e2 k (by omega)
    dsimp only at e
    simp only [impl_FixNorm.f, i_cl, Option.bind_some, hw, e]
/-! ranges -/
theorem s_in (a l h : Int) : spec_l1In.f a l h = some (decide (l ≤ a) && decide (a ≤ h)) := by
  simp only [spec_l1In.f]
  by_cases h1 : a ≥ l
  · rw [if_pos h1, decide_eq_true (show l ≤ a from h1)]; rfl
  · rw [if_neg h1, decide_eq_false (show ¬ l ≤ a from h1)]; rfl
theorem i_in (a l h : Int) : impl_in.f a l h = some (decide (l ≤ a) && decide (a ≤ h)) := by
  simp only [impl_in.f]
  by_cases h1 : a ≥ l
  · rw [if_pos h1, decide_eq_true (show l ≤ a from h1)]; rfl
  · rw [if_neg h1, decide_eq_false (show ¬ l ≤ a from h1)]; rfl
theorem if_some {α : Type} (c : Bool) (x : α) (y z : Bool) : (if c = true then some y else some z : Option Bool) = some (if c = true then y else z) := by cases c <;> rfl
def coordOk (x y h e : Int) : Bool := (decide (-100000 ≤ x) && decide (x ≤ 100000)) && ((decide (-100000 ≤ y) && decide (y ≤ 100000)) && ((decide (0 ≤ h) && decide (h ≤ 100000)) && (decide (1 ≤ e) && decide (e ≤ 1500))))
theorem s_coordOk (x y h e : Int) : spec_CoordOk.f x y h e = some (coordOk x y h e) := by
  simp only [spec_CoordOk.f, s_in, Option.bind_some, coordOk]
  cases (decide (-100000 ≤ x) && decide (x ≤ 100000)) <;> cases (decide (-100000 ≤ y) && decide (y ≤ 100000)) <;> cases (decide (0 ≤ h) && decide (h ≤ 100000)) <;> simp
theorem i_coordOk (x y h e : Int) : impl_CoordOk.f x y h e = some (coordOk x y h e) := by
  simp only [impl_CoordOk.f, i_in, Option.bind_some, coordOk]
  cases (decide (-100000 ≤ x) && decide (x ≤ 100000)) <;> cases (decide (-100000 ≤ y) && decide (y ≤ 100000)) <;> cases (decide (0 ≤ h) && decide (h ≤ 100000)) <;> simp
/-! ways between coordinates -/
theorem coordOk_iff (x y h e : Int) : coordOk x y h e = true ↔ (-100000 ≤ x ∧ x ≤ 100000) ∧ (-100000 ≤ y ∧ y ≤ 100000) ∧ (0 ≤ h ∧ h ≤ 100000) ∧ (1 ≤ e ∧ e ≤ 1500) := by
  unfold coordOk
  simp only [Bool.and_eq_true, decide_eq_true_eq]
theorem root_le {n r m : Int} (h : IsRoot n r) (hm : 0 ≤ m) (hn : n ≤ m * m) : r ≤ m := by
  obtain ⟨h0, h1, h2⟩ := h
  rcases lt_ge m r with hlt | hge
  · have := sq_mono (show 0 ≤ m + 1 by omega) (show m + 1 ≤ r by omega)
    have e : (m + 1) * (m + 1) = m * m + 2 * m + 1 := by rw [Int.add_mul, Int.mul_add]; omega
    omega
  · exact hge
theorem sq_small {a m : Int} (h : -m ≤ a ∧ a ≤ m) : 0 ≤ a * a ∧ a * a ≤ m * m := by
  rcases Int.le_total 0 a with h0 | h0
  · exact ⟨Int.mul_nonneg h0 h0, sq_mono h0 h.2⟩
  · rw [← Int.neg_mul_neg]
    exact ⟨Int.mul_nonneg (by omega) (by omega), sq_mono (show 0 ≤ -a by omega) (by omega)⟩
theorem norm_small (x y : Int) (hx : -200000 ≤ x ∧ x ≤ 200000) (hy : -200000 ≤ y ∧ y ≤ 200000) : ∃ r, IsRoot (x * x + y * y) r ∧ r ≤ 400000 ∧ ∃ K, ∀ k, K ≤ k → spec_FixNorm.f k x y = some r ∧ impl_FixNorm.f k x y = some r := by
  obtain ⟨r, hr, K, h⟩ := norms x y
  rw [cl_in (a := x) (by omega) (by omega), cl_in (a := y) (by omega) (by omega)] at hr
  have h1 := sq_small hx
  have h2 := sq_small hy
  have hle := root_le hr (show (0 : Int) ≤ 400000 by omega) (by omega)
  have h0 := hr.1
  rw [cl_in (a := r) (by omega) (by omega)] at h
  exact ⟨r, hr, hle, K, h⟩
/-- Both distances, however many rounds. -/
theorem dists (x y h e x' y' h' e' : Int) : ∃ d, (∃ K, ∀ k, K ≤ k → spec_CoordDist.f k x y h e x' y' h' e' = some d ∧ impl_CoordDist.f k x y h e x' y' h' e' = some d) ∧
    (coordOk x y h e = true → coordOk x' y' h' e' = true → ∃ r, IsRoot ((x - x') * (x - x') + (y - y') * (y - y')) r ∧ r ≤ 400000 ∧ d = r + h + h') ∧ (¬ (coordOk x y h e = true ∧ coordOk x' y' h' e' = true) → d = 0) := by
  by_cases h1 : coordOk x y h e = true
  · by_cases h2 : coordOk x' y' h' e' = true
    · obtain ⟨a1, a2, a3, a4⟩ := (coordOk_iff _ _ _ _).mp h1
      obtain ⟨b1, b2, b3, b4⟩ := (coordOk_iff _ _ _ _).mp h2
      obtain ⟨r, hr, hle, K, hK⟩ := norm_small (x - x') (y - y') (by omega) (by omega)
      have h0 := hr.1
      have w1 : wrap64 (x - x') = x - x' := w64 (by omega) (by omega)
      have w2 : wrap64 (y - y') = y - y' := w64 (by omega) (by omega)
      have w3 : wrap64 (r + h) = r + h := w64 (by omega) (by omega)
      have w4 : wrap64 (r + h + h') = r + h + h' := w64 (by omega) (by omega)
      refine ⟨r + h + h', ⟨K, fun k hk => ⟨?_, ?_⟩⟩, fun _ _ => ⟨r, hr, hle, rfl⟩, fun hn => absurd ⟨h1, h2⟩ hn⟩
      · simp only [spec_CoordDist.f, s_coordOk, h1, h2, Option.bind_some, if_true, w1, w2, (hK k hk).1, w3, w4]
      · simp only [impl_CoordDist.f, i_coordOk, h1, h2, Option.bind_some, if_true, w1, w2, (hK k hk).2, w3, w4]
    · have h2' : coordOk x' y' h' e' = false := by simpa using h2
      refine ⟨0, ⟨0, fun k hk => ⟨?_, ?_⟩⟩, fun _ hq => absurd hq h2, fun _ => rfl⟩
      · simp only [spec_CoordDist.f, s_coordOk, h1, h2', Option.bind_some, if_true, Bool.false_eq_true, if_false]
      · simp only [impl_CoordDist.f, i_coordOk, h1, h2', Option.bind_some, if_true, Bool.false_eq_true, if_false]
  · have h1' : coordOk x y h e = false := by simpa using h1
    refine ⟨0, ⟨0, fun k hk => ⟨?_, ?_⟩⟩, fun hq _ => absurd hq h1, fun _ => rfl⟩
    · simp only [spec_CoordDist.f, s_coordOk, h1', Option.bind_some, Bool.false_eq_true, if_false]
    · simp only [impl_CoordDist.f, i_coordOk, h1', Option.bind_some, Bool.false_eq_true, if_false]
theorem coord_ok (b : List Int) (p : Int) (hR : Rdr b p) (hp : p ≤ 100000) : ∃ x y h e q, Rdr b q ∧ q ≤ p + 6 ∧ ∀ k, 1 ≤ k → spec_l61Coord.f k b p = some (x, y, h, e, q) := by
  obtain ⟨v1, a1, b1, -, h1⟩ := pick_ok b p 6 hR (by omega)
  have R1 := rdr_next hR
  by_cases hz : v1 = 0
  · refine ⟨0, 0, 0, 1500, p + 1, R1, by omega, fun k hk => ?_⟩
    simp only [spec_l61Coord.f, h1 k hk, Option.bind_some, spec_CoordNew.f]
    rw [if_pos hz]
  · obtain ⟨v2, a2, b2, -, h2⟩ := pick_ok b (p + 1) 3 R1 (by omega)
    have b2 := b2 (by omega)
    have R2 := rdr_next R1
    obtain ⟨f, hf⟩ : ∃ f, f = rd [10, 1000, 100000] v2 := ⟨_, rfl⟩
    obtain ⟨v3, a3, b3, -, h3⟩ := pick_ok b (p + 1 + 1) (wrap64 (wrap64 (2 * f) + 1)) R2 (by omega)
    have R3 := rdr_next R2
    obtain ⟨v4, a4, b4, -, h4⟩ := pick_ok b (p + 1 + 1 + 1) (wrap64 (wrap64 (2 * f) + 1)) R3 (by omega)
    have R4 := rdr_next R3
    obtain ⟨v5, a5, b5, -, h5⟩ := pick_ok b (p + 1 + 1 + 1 + 1) (wrap64 (f + 1)) R4 (by omega)
    have R5 := rdr_next R4
    obtain ⟨v6, a6, b6, -, h6⟩ := pick_ok b (p + 1 + 1 + 1 + 1 + 1) 1500 R5 (by omega)
    refine ⟨wrap64 (v3 - f), wrap64 (v4 - f), v5, wrap64 (1 + v6), p + 1 + 1 + 1 + 1 + 1 + 1, rdr_next R5, by omega, fun k hk => ?_⟩
    simp only [spec_l61Coord.f, h1 k hk, Option.bind_some]
    rw [if_neg hz]
    simp only [h2 k hk, Option.bind_some, ← hf]
    rw [if_pos a2, if_pos (by simp; omega)]
    simp only [h3 k hk, h4 k hk, h5 k hk, h6 k hk, Option.bind_some]
theorem anyCoord_ok (b : List Int) (p : Int) (hR : Rdr b p) (hp : p ≤ 100000) : ∃ x y h e q, Rdr b q ∧ q ≤ p + 8 ∧ ∀ k, 1 ≤ k → spec_l61AnyCoord.f k b p = some (x, y, h, e, q) := by
  obtain ⟨x, y, h, e, q, R0, hq, h0⟩ := coord_ok b p hR hp
  obtain ⟨v1, a1, b1, -, h1⟩ := pick_ok b q 16 R0 (by omega)
  have R1 := rdr_next R0
  obtain ⟨v2, a2, b2, -, h2⟩ := pick_ok b (q + 1) 3 R1 (by omega)
  obtain ⟨v3, a3, b3, -, h3⟩ := pick_ok b (q + 1) 2 R1 (by omega)
  have R2 := rdr_next R1
  have b2 := b2 (by omega)
  have b3 := b3 (by omega)
  by_cases c0 : v1 = 0
  · refine ⟨rd [100000, 100001, -100001] v2, y, h, e, q + 1 + 1, R2, by omega, fun k hk => ?_⟩
    simp only [spec_l61AnyCoord.f, h0 k hk, h1 k hk, h2 k hk, Option.bind_some]
    rw [if_pos c0, if_pos a2, if_pos (by simp; omega)]
  · by_cases c1 : v1 = 1
    · refine ⟨x, y, rd [-1, 100001] v3, e, q + 1 + 1, R2, by omega, fun k hk => ?_⟩
      simp only [spec_l61AnyCoord.f, h0 k hk, h1 k hk, h3 k hk, Option.bind_some]
      rw [if_neg c0, if_pos c1, if_pos a3, if_pos (by simp; omega)]
    · by_cases c2 : v1 = 2
      · refine ⟨x, y, h, rd [0, 1501] v3, q + 1 + 1, R2, by omega, fun k hk => ?_⟩
        simp only [spec_l61AnyCoord.f, h0 k hk, h1 k hk, h3 k hk, Option.bind_some]
        rw [if_neg c0, if_neg c1, if_pos c2, if_pos a3, if_pos (by simp; omega)]
      · refine ⟨x, y, h, e, q + 1, R1, by omega, fun k hk => ?_⟩
        simp only [spec_l61AnyCoord.f, h0 k hk, h1 k hk, Option.bind_some]
        rw [if_neg c0, if_neg c1, if_neg c2]
theorem two_coords (l : List Int) (hl : ∀ x ∈ l, (Lit.int .u8 x).wf = true) : ∃ x y h e x' y' h' e', ∀ k, 1 ≤ k → spec_DrawCoordDist.f k l = some (x, y, h, e, x', y', h', e') := by
  obtain ⟨b, hR, ho⟩ := open_ok l hl
  obtain ⟨x, y, h, e, q, R, hq, h1⟩ := anyCoord_ok b 0 hR (by omega)
  obtain ⟨x', y', h', e', q', R', hq', h2⟩ := anyCoord_ok b q R (by omega)
  refine ⟨x, y, h, e, x', y', h', e', fun k hk => ?_⟩
  simp only [spec_DrawCoordDist.f, ho, h1 k hk, h2 k hk, Option.bind_some]
/-- The third side, but for what is cut off. -/
theorem third (u1 u2 v1 v2 r s t : Int) (hr : IsRoot (u1 * u1 + u2 * u2) r) (hs : IsRoot (v1 * v1 + v2 * v2) s) (ht : IsRoot ((u1 + v1) * (u1 + v1) + (u2 + v2) * (u2 + v2)) t) : t ≤ r + s + 2 := by
  obtain ⟨r0, r1, r2⟩ := hr
  obtain ⟨s0, s1, s2⟩ := hs
  obtain ⟨t0, t1, t2⟩ := ht
  obtain ⟨p, hp⟩ : ∃ p, p = u1 * v1 + u2 * v2 := ⟨_, rfl⟩
  obtain ⟨m, hm⟩ : ∃ m, m = (r + 1) * (s + 1) := ⟨_, rfl⟩
  have hm0 : 0 ≤ m := by rw [hm]; exact Int.mul_nonneg (by omega) (by omega)
  have id1 : p * p + (u1 * v2 - u2 * v1) * (u1 * v2 - u2 * v1) = (u1 * u1 + u2 * u2) * (v1 * v1 + v2 * v2) := by rw [hp]; grind
  have id2 : m * m = ((r + 1) * (r + 1)) * ((s + 1) * (s + 1)) := by rw [hm]; grind
  have q0 : 0 ≤ (u1 * v2 - u2 * v1) * (u1 * v2 - u2 * v1) := by
    rcases Int.le_total 0 (u1 * v2 - u2 * v1) with h | h
    · exact Int.mul_nonneg h h
    · exact Int.mul_nonneg_of_nonpos_of_nonpos h h
  have n1 : ∀ a : Int, 0 ≤ a * a := by
    intro a
    rcases Int.le_total 0 a with h | h
    · exact Int.mul_nonneg h h
    · exact Int.mul_nonneg_of_nonpos_of_nonpos h h
  have hV : 0 ≤ v1 * v1 + v2 * v2 := by have := n1 v1; have := n1 v2; omega
  have hU : 0 ≤ u1 * u1 + u2 * u2 := by have := n1 u1; have := n1 u2; omega
  have le1 : (u1 * u1 + u2 * u2) * (v1 * v1 + v2 * v2) ≤ ((r + 1) * (r + 1)) * ((s + 1) * (s + 1)) := Int.mul_le_mul (by omega) (by omega) hV (by omega)
  have hpm : p ≤ m := by
    rcases lt_ge m p with h | h
    · have := sq_mono (show 0 ≤ m + 1 by omega) (show m + 1 ≤ p by omega)
      have e : (m + 1) * (m + 1) = m * m + 2 * m + 1 := by grind
      omega
    · exact h
  have id3 : (u1 + v1) * (u1 + v1) + (u2 + v2) * (u2 + v2) = (u1 * u1 + u2 * u2) + 2 * p + (v1 * v1 + v2 * v2) := by rw [hp]; grind
  have id4 : (r + s + 2) * (r + s + 2) = (r + 1) * (r + 1) + 2 * m + (s + 1) * (s + 1) := by rw [hm]; grind
  rcases lt_ge (r + s + 2) t with h | h
  · have := sq_mono (show 0 ≤ r + s + 2 by omega) (show r + s + 2 ≤ t by omega)
    omega
  · exact h
theorem FnCoordDist : laws_FnCoordDist.Pure := by
  intro l0 l1 hl1 hl2 hl3 hm1 hm2 hm3
  obtain ⟨x, y, h, e, x', y', h', e', hd⟩ := two_coords l0 hl3
  obtain ⟨x2, y2, h2, e2, x3, y3, h3, e3, hd'⟩ := two_coords l1 hm3
  obtain ⟨d, ⟨K, hK⟩, g1, g2⟩ := dists x y h e x' y' h' e'
  obtain ⟨d', ⟨K', hK'⟩, g1', g2'⟩ := dists x' y' h' e' x y h e
  obtain ⟨d1, ⟨K1, hK1⟩, k1, k2⟩ := dists x y h e x2 y2 h2 e2
  obtain ⟨d2, ⟨K2, hK2⟩, m1, m2⟩ := dists x2 y2 h2 e2 x' y' h' e'
  have hsym : d' = d := by
    by_cases ok : coordOk x y h e = true ∧ coordOk x' y' h' e' = true
    · obtain ⟨r, hr, -, rfl⟩ := g1 ok.1 ok.2
      obtain ⟨s, hs, -, rfl⟩ := g1' ok.2 ok.1
      obtain rfl : s = r := hs.uniq (by
        have e1 : (x' - x) * (x' - x) = (x - x') * (x - x') := by grind
        have e2 : (y' - y) * (y' - y) = (y - y') * (y - y') := by grind
        rw [e1, e2]; exact hr)
      omega
    · rw [g2 ok, g2' (fun h => ok ⟨h.2, h.1⟩)]
  obtain ⟨K0, hK0⟩ : ∃ K0, K0 = max (max K K') (max K1 K2) := ⟨_, rfl⟩
  refine ⟨K0 + 5, ?_⟩
  have main : laws_FnCoordDist.j0 (K0 + 5) l0 l1 false = some true := by
    simp only [laws_FnCoordDist.j0]
    rw [if_neg (by decide), hd _ (by omega)]
    simp only [Option.bind_some]
    rw [hd' _ (by omega)]
    simp only [Option.bind_some, (hK (K0 + 4) (by omega)).1, (hK (K0 + 4) (by omega)).2, (hK' (K0 + 4) (by omega)).2, s_coordOk, i_coordOk, hsym, if_true, bne_self_eq_false]
    simp only [laws_FnCoordDist.j1]
    rw [if_neg (by decide)]
    simp only [s_coordOk, Option.bind_some]
    by_cases o1 : coordOk x y h e = true
    · rw [if_pos o1]
      simp only [laws_FnCoordDist.j2]
      by_cases o2 : coordOk x' y' h' e' = true
      · rw [if_neg (by simp [o2])]
        obtain ⟨r, hr, hle, hdr⟩ := g1 o1 o2
        obtain ⟨a1, a2, a3, a4⟩ := (coordOk_iff _ _ _ _).mp o1
        obtain ⟨b1, b2, b3, b4⟩ := (coordOk_iff _ _ _ _).mp o2
        have r0 := hr.1
        have w1 : wrap64 (h + h') = h + h' := w64 (by omega) (by omega)
        rw [w1, if_pos (by omega)]
        simp only [s_coordOk, Option.bind_some]
        by_cases o3 : coordOk x2 y2 h2 e2 = true
        · rw [if_pos o3]
          obtain ⟨c1, c2, c3, c4⟩ := (coordOk_iff _ _ _ _).mp o3
          obtain ⟨s, hs, hsl, hds⟩ := k1 o1 o3
          obtain ⟨t, ht, htl, hdt⟩ := m1 o3 o2
          have s0 := hs.1
          have t0 := ht.1
          simp only [(hK1 (K0 + 2) (by omega)).2, (hK2 (K0 + 2) (by omega)).2, Option.bind_some]
          have tri : r ≤ s + t + 2 := third (x - x2) (y - y2) (x2 - x') (y2 - y') s t r hs ht (by
            have e1 : x - x2 + (x2 - x') = x - x' := by omega
            have e2 : y - y2 + (y2 - y') = y - y' := by omega
            rw [e1, e2]; exact hr)
          have w2 : wrap64 (d1 + d2) = d1 + d2 := w64 (by omega) (by omega)
          have w3 : wrap64 (d1 + d2 + 2) = d1 + d2 + 2 := w64 (by omega) (by omega)
          rw [w2, w3, decide_eq_true (by omega)]
        · rw [if_neg o3]
      · have o2' : coordOk x' y' h' e' = false := by simpa using o2
        rw [if_pos (by simp [o2']), g2 (fun hh => o2 hh.2)]; rfl
    · rw [if_neg o1]
      simp only [laws_FnCoordDist.j2]
      rw [if_pos trivial, g2 (fun hh => o1 hh.1)]; rfl
  have most : laws_FnCoordDist.j0 (K0 + 5) l0 l1 true = some true := by simp only [laws_FnCoordDist.j0]; rw [if_pos trivial]
  simp only [laws_FnCoordDist.f]
  by_cases h0 : (l0.length : Int) > 1048576
  · rw [if_pos h0]; exact most
  · rw [if_neg h0]
    by_cases h1 : (l1.length : Int) > 1048576
    · rw [decide_eq_true h1]; exact most
    · rw [decide_eq_false h1]; exact main
end Go.Proofs.Ytbpapiejmedkeaa.Pure
