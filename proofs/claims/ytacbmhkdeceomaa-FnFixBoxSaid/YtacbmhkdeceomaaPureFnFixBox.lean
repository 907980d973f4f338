/- Of two drawn numbers: no number that is put together of them gets out of its box, and all are the reference's. Conditions: the bytes' number is within the row's reach. -/
import Derived.Test.YtacbmhkdeceomaaPFnFixBoxx2
set_option linter.unusedVariables false
set_option linter.unusedSimpArgs false
namespace Go.Proofs.Ytacbmhkdeceomaa.Pure
open Go.RowKit Go.Proofs.Ytacbmhkdeceomaa.PFnFixBox Go.Proofs.YtacbmhkdeceomaaW.PrintWords Go.Proofs.YtacbmhkdeceomaaW.PrintLast Go.Proofs.YtacbmhkdeceomaaW.PrintMore
theorem w64 {n : Int} (h : -9223372036854775808 ≤ n) (h' : n ≤ 9223372036854775807) : wrap64 n = n := by unfold wrap64; omega
theorem lt_ge (a b : Int) : a < b ∨ b ≤ a := by omega
/-! drawing -/
theorem i64_xor (a b : Int) (h1 : 0 ≤ a) (h2 : a < 9223372036854775808) (h3 : 0 ≤ b) (h4 : b < 9223372036854775808) : Go.bits .xor .i64 a b = ((a.toNat ^^^ b.toNat : Nat) : Int) := by
  obtain ⟨a, rfl⟩ := Int.eq_ofNat_of_zero_le h1
  obtain ⟨b, rfl⟩ := Int.eq_ofNat_of_zero_le h3
  have ha' : a % 2 ^ IntKind.i64.bits = a := Nat.mod_eq_of_lt (by show a < 2 ^ 64; omega)
  have hb' : b % 2 ^ IntKind.i64.bits = b := Nat.mod_eq_of_lt (by show b < 2 ^ 64; omega)
  have hx : a ^^^ b < 2 ^ 63 := Nat.xor_lt_two_pow (by omega) (by omega)
  simp only [Go.bits, BitVec.ofInt_natCast, BitVec.toNat_xor, BitVec.toNat_ofNat, ha', hb', Int.toNat_natCast]
  rw [IntKind.wrap_i64]
  omega
/-- The reader's bytes and its place. -/
def Rdr (b : List Int) (p : Int) : Prop := (∀ x ∈ b, 0 ≤ x ∧ x ≤ 255) ∧ b.length ≤ 2000 ∧ 0 ≤ p
theorem rd_byte {b : List Int} (h : ∀ x ∈ b, 0 ≤ x ∧ x ≤ 255) (i : Int) : 0 ≤ rd b i ∧ rd b i ≤ 255 := by
  unfold rd
  rw [List.getD_eq_getElem?_getD]
  rcases hq : b[i.toNat]? with _ | x
  · simp
  · exact h x (List.mem_of_getElem? hq)
theorem tmod_bd {a n : Int} (ha : 0 ≤ a) (hn : 0 < n) : 0 ≤ Int.tmod a n ∧ Int.tmod a n < n := ⟨Int.tmod_nonneg _ ha, Int.tmod_lt_of_pos _ hn⟩
theorem pick_ok (b : List Int) (p n : Int) (hR : Rdr b p) (hp : p ≤ 1000000) : ∃ v, 0 ≤ v ∧ (0 < n → v < n) ∧ (n < 1 → v = 0) ∧ ∀ k, 1 ≤ k → spec_l1Rd_pick.f k b p n = some (v, p + 1) := by
  obtain ⟨hb, hl, h0⟩ := hR
  have e1 : wrap64 (p + 1) = p + 1 := w64 (by omega) (by omega)
  by_cases hn : n < 1
  · refine ⟨0, by omega, by omega, fun _ => rfl, fun k hk => ?_⟩
    obtain ⟨k, rfl⟩ : ∃ m, k = m + 1 := ⟨k - 1, by omega⟩
    simp only [spec_l1Rd_pick.f, spec_l1Rd_pick.j0]
    rw [if_pos hn, if_pos trivial, e1]
  · have e2 : wrap64 (p + 1 - 1) = p := by rw [w64 (by omega) (by omega)]; omega
    by_cases hz : b.length = 0
    · refine ⟨0, by omega, by omega, fun _ => rfl, fun k hk => ?_⟩
      obtain ⟨k, rfl⟩ : ∃ m, k = m + 1 := ⟨k - 1, by omega⟩
      simp only [spec_l1Rd_pick.f, spec_l1Rd_pick.j0]
      rw [if_neg hn, if_pos (beq_iff_eq.mpr (by omega)), e1]
    · have hz' : ((b.length : Int) == 0) = false := beq_eq_false_iff_ne.mpr (by omega)
      by_cases hlt : p < (b.length : Int)
      · obtain ⟨r1, r2⟩ := rd_byte hb p
        obtain ⟨m1, m2⟩ := tmod_bd r1 (show 0 < n by omega)
        refine ⟨Int.tmod (rd b p) n, m1, fun _ => m2, by omega, fun k hk => ?_⟩
        obtain ⟨k, rfl⟩ : ∃ m, k = m + 1 := ⟨k - 1, by omega⟩
        simp only [spec_l1Rd_pick.f, spec_l1Rd_pick.j0, hz', e1, e2]
        rw [if_neg hn, if_neg (by decide), if_pos hlt, if_pos h0, if_neg (by omega), w64 (n := rd b p) (by omega) (by omega)]
      · have e3 : wrap64 (p * 7) = p * 7 := w64 (by omega) (by omega)
        have e4 : wrap64 (p * 7 + 3) = p * 7 + 3 := w64 (by omega) (by omega)
        have e5 : wrap64 (p * 29) = p * 29 := w64 (by omega) (by omega)
        obtain ⟨i, hi⟩ : ∃ i, i = Int.tmod p (b.length : Int) := ⟨_, rfl⟩
        obtain ⟨j, hj⟩ : ∃ j, j = Int.tmod (p * 7 + 3) (b.length : Int) := ⟨_, rfl⟩
        obtain ⟨i1, i2⟩ := tmod_bd h0 (show 0 < (b.length : Int) by omega)
        obtain ⟨j1, j2⟩ := tmod_bd (show 0 ≤ p * 7 + 3 by omega) (show 0 < (b.length : Int) by omega)
        rw [← hi] at i1 i2
        rw [← hj] at j1 j2
        obtain ⟨a1, a2⟩ := rd_byte hb i
        obtain ⟨c1, c2⟩ := rd_byte hb j
        obtain ⟨q, hq⟩ : ∃ q, q = Int.tdiv p (b.length : Int) := ⟨_, rfl⟩
        have q1 : 0 ≤ q ∧ q ≤ p := by
          rw [hq, Int.tdiv_eq_ediv_of_nonneg h0]
          exact ⟨Int.ediv_nonneg h0 (by omega), Int.ediv_le_self _ h0⟩
        have f1 : wrap64 (rd b i) = rd b i := w64 (by omega) (by omega)
        have f2 : wrap64 (rd b j) = rd b j := w64 (by omega) (by omega)
        have f3 : wrap64 (rd b i * 131) = rd b i * 131 := w64 (by omega) (by omega)
        have f4 : wrap64 (rd b j * 1117) = rd b j * 1117 := w64 (by omega) (by omega)
        have f5 : wrap64 q = q := w64 (by omega) (by omega)
        have f6 : wrap64 (q * 53) = q * 53 := w64 (by omega) (by omega)
        have f7 : wrap64 (rd b i * 131 + rd b j * 1117) = rd b i * 131 + rd b j * 1117 := w64 (by omega) (by omega)
        have f8 : wrap64 (rd b i * 131 + rd b j * 1117 + p * 29) = rd b i * 131 + rd b j * 1117 + p * 29 := w64 (by omega) (by omega)
        obtain ⟨x, hx⟩ : ∃ x, x = rd b i * 131 + rd b j * 1117 + p * 29 + q * 53 := ⟨_, rfl⟩
        have f9 : wrap64 (rd b i * 131 + rd b j * 1117 + p * 29 + q * 53) = x := by rw [hx]; exact w64 (by omega) (by omega)
        have x1 : 0 ≤ x := by omega
        have x2 : x ≤ 100000000 := by omega
        have f10 : wrap64 (Int.tdiv x 64) = x / 64 := by rw [Int.tdiv_eq_ediv_of_nonneg x1]; exact w64 (by omega) (by omega)
        have f11 := i64_xor x (x / 64) x1 (by omega) (by omega) (by omega)
        obtain ⟨m1, m2⟩ := tmod_bd (Int.natCast_nonneg (x.toNat ^^^ (x / 64).toNat)) (show 0 < n by omega)
        refine ⟨Int.tmod ((x.toNat ^^^ (x / 64).toNat : Nat) : Int) n, m1, fun _ => m2, by omega, fun k hk => ?_⟩
        obtain ⟨k, rfl⟩ : ∃ m, k = m + 1 := ⟨k - 1, by omega⟩
        simp only [spec_l1Rd_pick.f, spec_l1Rd_pick.j0, hz', e1, e2, e3, e4, e5, ← hi, ← hj, ← hq, f1, f2, f3, f4, f5, f6, f7, f8, f9, f10, f11]
        rw [if_neg hn, if_neg (by decide), if_neg hlt, if_neg (by omega), if_pos i1, if_pos i2, if_pos j1, if_pos j2, if_neg (by omega)]
theorem rdr_next {b : List Int} {p : Int} (h : Rdr b p) : Rdr b (p + 1) := ⟨h.1, h.2.1, by have := h.2.2; omega⟩
theorem open_ok (l : List Int) (hl : ∀ x ∈ l, (Lit.int .u8 x).wf = true) : ∃ b, Rdr b 0 ∧ spec_l1Open.f l = some (b, 0) := by
  have hw : ∀ x ∈ l, 0 ≤ x ∧ x ≤ 255 := by
    intro x hx
    have := hl x hx
    have h2 := (Bool.and_eq_true _ _).mp this
    have h3 := of_decide_eq_true h2.1
    have h4 := of_decide_eq_true h2.2
    exact ⟨h3, h4⟩
  simp only [spec_l1Open.f]
  by_cases h : (l.length : Int) > 2000
  · rw [if_pos h, if_pos (by omega)]
    exact ⟨l.take 2000, ⟨fun x hx => hw x (List.mem_of_mem_take hx), by rw [List.length_take]; omega, by omega⟩, rfl⟩
  · rw [if_neg h]
    exact ⟨l, ⟨hw, by omega, by omega⟩, rfl⟩
def I64 (a : Int) : Prop := -9223372036854775808 ≤ a ∧ a ≤ 9223372036854775807
theorem num_ok (b : List Int) (p : Int) (hR : Rdr b p) (hp : p ≤ 1000) : ∃ v, I64 v ∧ ∀ k, 1 ≤ k → spec_l61Num.f k b p = some (v, p + 4) := by
  obtain ⟨v1, a1, b1, -, h1⟩ := pick_ok b p 9 hR (by omega)
  have R1 := rdr_next hR
  obtain ⟨v2, a2, b2, -, h2⟩ := pick_ok b (p + 1) 9 R1 (by omega)
  have R2 := rdr_next R1
  obtain ⟨v3, a3, b3, -, h3⟩ := pick_ok b (p + 1 + 1) 100000 R2 (by omega)
  have R3 := rdr_next R2
  obtain ⟨v4, a4, b4, -, h4⟩ := pick_ok b (p + 1 + 1 + 1) 8 R3 (by omega)
  have b1 := b1 (by omega)
  have b2 := b2 (by omega)
  have b3 := b3 (by omega)
  have b4 := b4 (by omega)
  have e1 : wrap64 (v1 - 4) = v1 - 4 := w64 (by omega) (by omega)
  have e2 : wrap64 (v2 - 4) = v2 - 4 := w64 (by omega) (by omega)
  have e3 : wrap64 (1000 * (v2 - 4)) = 1000 * (v2 - 4) := w64 (by omega) (by omega)
  have ep : p + 1 + 1 + 1 + 1 = p + 4 := by omega
  refine ⟨rd [v1 - 4, 1000 * (v2 - 4), 1000000000, -1000000000, 1000000001, v3, 4611686018427387904, -9223372036854775808] v4, ?_, fun k hk => ?_⟩
  · obtain rfl | rfl | rfl | rfl | rfl | rfl | rfl | rfl : v4 = 0 ∨ v4 = 1 ∨ v4 = 2 ∨ v4 = 3 ∨ v4 = 4 ∨ v4 = 5 ∨ v4 = 6 ∨ v4 = 7 := by omega
    all_goals simp [rd, I64]; try omega
  · simp only [spec_l61Num.f, h1 k hk, h2 k hk, h3 k hk, h4 k hk, Option.bind_some, e1, e2, e3, ep]
    rw [if_pos a4, if_pos (by simp; omega)]
theorem two_ok (l : List Int) (hl : ∀ x ∈ l, (Lit.int .u8 x).wf = true) : ∃ u v, I64 u ∧ I64 v ∧ ∀ k, 1 ≤ k → spec_DrawFixAdd.f k l = some (u, v) := by
  obtain ⟨b, hR, ho⟩ := open_ok l hl
  obtain ⟨u, hu, h1⟩ := num_ok b 0 hR (by omega)
  obtain ⟨v, hv, h2⟩ := num_ok b (0 + 4) ⟨hR.1, hR.2.1, by omega⟩ (by omega)
  refine ⟨u, v, hu, hv, fun k hk => ?_⟩
  simp only [spec_DrawFixAdd.f, ho, Option.bind_some, h1 k hk, h2 k hk]
/-! the clamp -/
def cl (a : Int) : Int := max (-1000000000) (min a 1000000000)
theorem cl_bd (a : Int) : -1000000000 ≤ cl a ∧ cl a ≤ 1000000000 := by unfold cl; omega
theorem cl_in {a : Int} (h : -1000000000 ≤ a) (h' : a ≤ 1000000000) : cl a = a := by unfold cl; omega
theorem s_cl (a : Int) : spec_FixClamp.f a = some (cl a) := by
  simp only [spec_FixClamp.f, spec_l1Box.f, cl]
  by_cases h1 : a < -1000000000
  · rw [if_pos h1]; simp only [Option.bind_some]; congr 1; omega
  · rw [if_neg h1]
    by_cases h2 : a > 1000000000
    · rw [if_pos h2]; simp only [Option.bind_some]; congr 1; omega
    · rw [if_neg h2]; simp only [Option.bind_some]; congr 1; omega
theorem i_cl (a : Int) : impl_FixClamp.f a = some (cl a) := by
  simp only [impl_FixClamp.f, impl_clamp.f, cl, Option.bind_some, mx, mn]
  congr 1
  split <;> split <;> omega
def fadd (a b : Int) : Int := cl (cl a + cl b)
theorem s_add (a b : Int) : spec_FixAdd.f a b = some (fadd a b) := by
  have h := cl_bd a
  have h' := cl_bd b
  have e1 : wrap64 (cl a + cl b) = cl a + cl b := w64 (by omega) (by omega)
  simp only [spec_FixAdd.f, s_cl, Option.bind_some, e1, fadd]
theorem i_add (a b : Int) : impl_FixAdd.f a b = some (fadd a b) := by
  have h := cl_bd a
  have h' := cl_bd b
  have e1 : wrap64 (cl a + cl b) = cl a + cl b := w64 (by omega) (by omega)
  simp only [impl_FixAdd.f, i_cl, Option.bind_some, e1, fadd]
/-! products and quotients -/
theorem mul_bd {x y : Int} (hx : -1000000000 ≤ x ∧ x ≤ 1000000000) (hy : -1000000000 ≤ y ∧ y ≤ 1000000000) : -1000000000000000000 ≤ x * y ∧ x * y ≤ 1000000000000000000 := by
  have h : (x * y).natAbs ≤ 1000000000 * 1000000000 := by
    rw [Int.natAbs_mul]; exact Nat.mul_le_mul (by omega) (by omega)
  omega
theorem cl_cl (a : Int) : cl (cl a) = cl a := cl_in (cl_bd a).1 (cl_bd a).2
theorem cl_neg (a : Int) : cl (-a) = -cl a := by unfold cl; omega
theorem tdiv_bd (a b : Int) : (Int.tdiv a b).natAbs ≤ a.natAbs := by rw [Int.natAbs_tdiv]; exact Nat.div_le_self _ _
def fmul (a b : Int) : Int := cl (Int.tdiv (cl a * cl b) 1000)
theorem s_mul (a b : Int) : spec_FixMul.f a b = some (fmul a b) := by
  have h := mul_bd (cl_bd a) (cl_bd b)
  have e1 : wrap64 (cl a * cl b) = cl a * cl b := w64 (by omega) (by omega)
  have h2 := tdiv_bd (cl a * cl b) 1000
  have e2 : wrap64 (Int.tdiv (cl a * cl b) 1000) = Int.tdiv (cl a * cl b) 1000 := w64 (by omega) (by omega)
  simp only [spec_FixMul.f, s_cl, Option.bind_some, e1, e2, fmul]
theorem i_mul (a b : Int) : impl_FixMul.f a b = some (fmul a b) := by
  have h := mul_bd (cl_bd a) (cl_bd b)
  have e1 : wrap64 (cl a * cl b) = cl a * cl b := w64 (by omega) (by omega)
  have h2 := tdiv_bd (cl a * cl b) 1000
  have e2 : wrap64 (Int.tdiv (cl a * cl b) 1000) = Int.tdiv (cl a * cl b) 1000 := w64 (by omega) (by omega)
  simp only [impl_FixMul.f, i_cl, Option.bind_some, e1, e2, fmul]
theorem fmul_comm (a b : Int) : fmul a b = fmul b a := by unfold fmul; rw [Int.mul_comm]
theorem fmul_one (a : Int) : fmul a 1000 = cl a := by
  unfold fmul
  rw [show cl 1000 = 1000 from by decide, Int.mul_tdiv_cancel _ (by omega), cl_cl]
theorem fmul_zero (a : Int) : fmul a 0 = 0 := by
  unfold fmul
  rw [show cl 0 = 0 from by decide, Int.mul_zero]; decide
theorem fmul_neg (a b : Int) : fmul a (-cl b) = -fmul a b := by
  unfold fmul
  rw [cl_neg, cl_cl, Int.mul_neg, Int.neg_tdiv, cl_neg]
def fdiv (a b : Int) : Int := if cl b = 0 then (if cl a > 0 then 1000000000 else if cl a < 0 then -1000000000 else 0) else cl (Int.tdiv (cl a * 1000) (cl b))
theorem div_bd (a b : Int) : (Int.tdiv (cl a * 1000) (cl b)).natAbs ≤ 1000000000000 := by
  have h2 := tdiv_bd (cl a * 1000) (cl b)
  have := cl_bd a
  omega
theorem s_div (a b : Int) : spec_FixDiv.f a b = some (fdiv a b) := by
  have h := cl_bd a
  have e1 : wrap64 (cl a * 1000) = cl a * 1000 := w64 (by omega) (by omega)
  have h2 := div_bd a b
  have e2 : wrap64 (Int.tdiv (cl a * 1000) (cl b)) = Int.tdiv (cl a * 1000) (cl b) := w64 (by omega) (by omega)
  simp only [spec_FixDiv.f, s_cl, Option.bind_some, e1, e2, fdiv]
  by_cases h0 : cl b = 0
  · simp only [if_pos h0]
    by_cases h1 : cl a > 0
    · simp only [if_pos h1]
    · simp only [if_neg h1]
      by_cases h2 : cl a < 0
      · simp only [if_pos h2]
      · simp only [if_neg h2]
  · simp only [if_neg h0]
theorem i_div (a b : Int) : impl_FixDiv.f a b = some (fdiv a b) := by
  have h := cl_bd a
  have e1 : wrap64 (cl a * 1000) = cl a * 1000 := w64 (by omega) (by omega)
  have h2 := div_bd a b
  have e2 : wrap64 (Int.tdiv (cl a * 1000) (cl b)) = Int.tdiv (cl a * 1000) (cl b) := w64 (by omega) (by omega)
  simp only [impl_FixDiv.f, i_cl, Option.bind_some, e1, e2, fdiv]
  by_cases h0 : cl b = 0
  · simp only [if_pos h0]
    by_cases h1 : cl a > 0
    · simp only [if_pos h1]
    · simp only [if_neg h1]
      by_cases h2 : cl a < 0
      · simp only [if_pos h2]
      · simp only [if_neg h2]
  · simp only [if_neg h0]
theorem fdiv_bd (a b : Int) : -1000000000 ≤ fdiv a b ∧ fdiv a b ≤ 1000000000 := by
  unfold fdiv
  split
  · split
    · omega
    · split <;> omega
  · exact cl_bd _
theorem fdiv_one (a : Int) : fdiv a 1000 = cl a := by
  unfold fdiv
  rw [show cl 1000 = 1000 from by decide, if_neg (by decide), Int.mul_tdiv_cancel _ (by omega), cl_cl]
/-! roots -/
def IsRoot (n r : Int) : Prop := 0 ≤ r ∧ r * r ≤ n ∧ n < (r + 1) * (r + 1)
theorem sq_mono {a b : Int} (h0 : 0 ≤ a) (h : a ≤ b) : a * a ≤ b * b := Int.mul_le_mul h h h0 (by omega)
theorem IsRoot.uniq {n r s : Int} (h : IsRoot n r) (h' : IsRoot n s) : r = s := by
  obtain ⟨a, b, c⟩ := h
  obtain ⟨a', b', c'⟩ := h'
  rcases Int.lt_trichotomy r s with hlt | heq | hgt
  · have := sq_mono (show 0 ≤ r + 1 by omega) (show r + 1 ≤ s by omega); omega
  · exact heq
  · have := sq_mono (show 0 ≤ s + 1 by omega) (show s + 1 ≤ r by omega); omega
theorem i_root_loop (n : Int) (d : Nat) : ∀ (k : Nat) (lo hi : Int), 0 ≤ lo → lo < hi → hi ≤ 2147483648 → lo * lo ≤ n → n < hi * hi → hi - lo ≤ d → d < k →
    ∃ r, IsRoot n r ∧ impl_root.l0 k n lo hi = some r := by
  induction d with
  | zero => intro k lo hi h0 h1 h2 h3 h4 h5 h6; omega
  | succ d ih =>
    intro k lo hi h0 h1 h2 h3 h4 h5 h6
    obtain ⟨k, rfl⟩ : ∃ m, k = m + 1 := ⟨k - 1, by omega⟩
    simp only [impl_root.l0]
    by_cases hc : hi - lo > 1
    · have e1 : wrap64 (hi - lo) = hi - lo := w64 (by omega) (by omega)
      have e2 : wrap64 (lo + hi) = lo + hi := w64 (by omega) (by omega)
      obtain ⟨m, hm⟩ : ∃ m, m = (lo + hi) / 2 := ⟨_, rfl⟩
      have e3 : wrap64 (Int.tdiv (lo + hi) 2) = m := by
        rw [Int.tdiv_eq_ediv_of_nonneg (by omega), ← hm]; exact w64 (by omega) (by omega)
      have hb := sq_mono (show 0 ≤ m by omega) (show m ≤ 2147483648 by omega)
      have hb0 := Int.mul_nonneg (show 0 ≤ m by omega) (show 0 ≤ m by omega)
      have e4 : wrap64 (m * m) = m * m := w64 (by omega) (by omega)
      rw [e1, if_pos hc, e2, e3, e4]
      by_cases ht : m * m ≤ n
      · rw [if_pos ht]; exact ih k m hi (by omega) (by omega) (by omega) ht h4 (by omega) (by omega)
      · rw [if_neg ht]; exact ih k lo m (by omega) (by omega) (by omega) h3 (by omega) (by omega) (by omega)
    · have e1 : wrap64 (hi - lo) = hi - lo := w64 (by omega) (by omega)
      rw [e1, if_neg hc]
      obtain rfl : hi = lo + 1 := by omega
      exact ⟨lo, ⟨h0, h3, h4⟩, rfl⟩
theorem i_root (n : Int) (h0 : 0 ≤ n) (h1 : n ≤ 4611686018427387903) : ∃ r, IsRoot n r ∧ Ev (fun k => impl_root.f k n) r := by
  obtain ⟨r, hr, h⟩ := i_root_loop n 2147483648 2147483649 0 2147483648 (by omega) (by omega) (by omega) (by omega) (by omega) (by omega) (by omega)
  exact ⟨r, hr, Ev.of (fun k => impl_root.mono _ _) (k := 2147483649) h⟩
theorem s_root_loop (n : Int) (hn : 0 ≤ n) (hn' : n ≤ 4611686018427387903) (d : Nat) : ∀ (k : Nat) (lo hi : Int), 0 ≤ lo → lo ≤ hi → hi ≤ 2147483647 → lo * lo ≤ n → n < (hi + 1) * (hi + 1) → hi - lo ≤ d → d < k →
    ∃ r, IsRoot n r ∧ spec_l1Root.l0 k n lo hi = some r := by
  induction d with
  | zero =>
    intro k lo hi h0 h1 h2 h3 h4 h5 h6
    obtain ⟨k, rfl⟩ : ∃ m, k = m + 1 := ⟨k - 1, by omega⟩
    simp only [spec_l1Root.l0]
    rw [if_neg (by omega)]
    obtain rfl : hi = lo := by omega
    exact ⟨hi, ⟨h0, h3, h4⟩, rfl⟩
  | succ d ih =>
    intro k lo hi h0 h1 h2 h3 h4 h5 h6
    obtain ⟨k, rfl⟩ : ∃ m, k = m + 1 := ⟨k - 1, by omega⟩
    simp only [spec_l1Root.l0]
    by_cases hc : lo < hi
    · have e2 : wrap64 (lo + hi) = lo + hi := w64 (by omega) (by omega)
      have e2' : wrap64 (lo + hi + 1) = lo + hi + 1 := w64 (by omega) (by omega)
      obtain ⟨m, hm⟩ : ∃ m, m = (lo + hi + 1) / 2 := ⟨_, rfl⟩
      have e3 : wrap64 (Int.tdiv (lo + hi + 1) 2) = m := by
        rw [Int.tdiv_eq_ediv_of_nonneg (by omega), ← hm]; exact w64 (by omega) (by omega)
      have hm0 : 0 < m := by omega
      have hdn : 0 ≤ n / m := Int.ediv_nonneg hn (by omega)
      have hdn' : n / m ≤ n := Int.ediv_le_self _ hn
      have e4 : wrap64 (Int.tdiv n m) = n / m := by
        rw [Int.tdiv_eq_ediv_of_nonneg hn]; exact w64 (by omega) (by omega)
      have e5 : wrap64 (m - 1) = m - 1 := w64 (by omega) (by omega)
      have hiff : m ≤ n / m ↔ m * m ≤ n := Int.le_ediv_iff_mul_le hm0
      rw [if_pos hc, e2, e2', e3, if_neg (by omega), e4]
      by_cases ht : m * m ≤ n
      · rw [if_pos (hiff.2 ht)]; exact ih k m hi (by omega) (by omega) (by omega) ht h4 (by omega) (by omega)
      · rw [if_neg (fun h => ht (hiff.1 h)), e5]
        refine ih k lo (m - 1) (by omega) (by omega) (by omega) h3 ?_ (by omega) (by omega)
        rw [Int.sub_add_cancel]; omega
    · rw [if_neg hc]
      obtain rfl : hi = lo := by omega
      exact ⟨hi, ⟨h0, h3, h4⟩, rfl⟩
theorem s_root (n : Int) (h0 : 0 ≤ n) (h1 : n < 2250000003000000001) : ∃ r, IsRoot n r ∧ Ev (fun k => spec_l1Root.f k n) r := by
  obtain ⟨r, hr, h⟩ := s_root_loop n h0 (by omega) 1500000000 1500000001 0 1500000000 (by omega) (by omega) (by omega) (by omega) (by omega) (by omega) (by omega)
  exact ⟨r, hr, Ev.of (fun k => spec_l1Root.mono _ _) (k := 1500000001) h⟩
/-- Both roots are the root. -/
theorem roots (n : Int) (h0 : 0 ≤ n) (h1 : n < 2250000003000000001) : ∃ r, IsRoot n r ∧ Ev (fun k => spec_l1Root.f k n) r ∧ Ev (fun k => impl_root.f k n) r := by
  obtain ⟨r, hr, h⟩ := s_root n h0 h1
  obtain ⟨s, hs, h'⟩ := i_root n h0 (by omega)
  obtain rfl := hr.uniq hs
  exact ⟨r, hr, h, h'⟩
theorem sq_bd {a : Int} (h : -1000000000 ≤ a ∧ a ≤ 1000000000) : 0 ≤ a * a ∧ a * a ≤ 1000000000000000000 := by
  obtain ⟨h1, h2⟩ := h
  rcases Int.le_total 0 a with h0 | h0
  · exact ⟨Int.mul_nonneg h0 h0, by have := sq_mono h0 h2; omega⟩
  · have e : a * a = (-a) * (-a) := by rw [Int.neg_mul_neg]
    rw [e]
    exact ⟨Int.mul_nonneg (by omega) (by omega), by have := sq_mono (show 0 ≤ -a by omega) (show -a ≤ 1000000000 by omega); omega⟩
theorem sum_bd (a b : Int) : 0 ≤ cl a * cl a + cl b * cl b ∧ cl a * cl a + cl b * cl b ≤ 2000000000000000000 ∧ wrap64 (wrap64 (cl a * cl a) + wrap64 (cl b * cl b)) = cl a * cl a + cl b * cl b := by
  have ha := sq_bd (cl_bd a)
  have hb := sq_bd (cl_bd b)
  refine ⟨by omega, by omega, ?_⟩
  rw [w64 (n := cl a * cl a) (by omega) (by omega), w64 (n := cl b * cl b) (by omega) (by omega)]
  exact w64 (by omega) (by omega)
/-- Both norms, however many rounds. -/
theorem norms (x y : Int) : ∃ r, IsRoot (cl x * cl x + cl y * cl y) r ∧ ∃ K, ∀ k, K ≤ k → spec_FixNorm.f k x y = some (cl r) ∧ impl_FixNorm.f k x y = some (cl r) := by
  obtain ⟨h0, h1, hw⟩ := sum_bd x y
  obtain ⟨r, hr, ⟨K1, e1⟩, ⟨K2, e2⟩⟩ := roots _ h0 (by omega)
  refine ⟨r, hr, max K1 K2, fun k hk => ⟨?_, ?_⟩⟩
  · have e := e1 k (by omega)
    dsimp only at e
    simp only [spec_FixNorm.f, s_cl, Option.bind_some, hw, e]
  · have e := e2 k (by omega)
    dsimp only at e
    simp only [impl_FixNorm.f, i_cl, Option.bind_some, hw, e]
theorem fixroots (a : Int) : ∃ r, IsRoot (max (cl a) 0 * 1000) r ∧ ∃ K, ∀ k, K ≤ k → spec_FixRoot.f k a = some r ∧ impl_FixRoot.f k a = some r := by
  have hb := cl_bd a
  obtain ⟨n, hn⟩ : ∃ n, n = max (cl a) 0 * 1000 := ⟨_, rfl⟩
  have hn' : n = mx (cl a) 0 * 1000 := by rw [hn]; unfold mx; split <;> omega
  obtain ⟨r, hr, ⟨K1, e1⟩, ⟨K2, e2⟩⟩ := roots n (by omega) (by omega)
  have hw : wrap64 (mx (cl a) 0 * 1000) = n := by rw [← hn']; exact w64 (by omega) (by omega)
  refine ⟨r, hn ▸ hr, max K1 K2, fun k hk => ⟨?_, ?_⟩⟩
  · have e := e1 k (by omega)
    dsimp only at e
    simp only [spec_FixRoot.f]
    by_cases h : a < 0
    · rw [if_pos h]
      have hz : n = 0 := by rw [hn]; have : cl a ≤ 0 := by { unfold cl; omega }; omega
      have : IsRoot n 0 := ⟨by omega, by omega, by omega⟩
      rw [hr.uniq this]
    · rw [if_neg h]
      have : 0 ≤ cl a := by unfold cl; omega
      have hz : wrap64 (cl a * 1000) = n := by rw [w64 (by omega) (by omega)]; omega
      simp only [s_cl, Option.bind_some, hz, e]
  · have e := e2 k (by omega)
    dsimp only at e
    simp only [impl_FixRoot.f, i_cl, Option.bind_some, hw, e]

theorem lhInts_same (l : List Int) (d : Nat) : ∀ (k : Nat) (i : Int), 0 ≤ i → i ≤ l.length → l.length ≤ 1000000 → (l.length : Int) - i = d → d < k → laws_lhInts.l0 k l l i = some true := by
  induction d with
  | zero =>
    intro k i h0 h1 hm hd hk
    obtain ⟨k, rfl⟩ : ∃ m, k = m + 1 := ⟨k - 1, by omega⟩
    simp only [laws_lhInts.l0]; rw [if_neg (by omega)]
  | succ d ih =>
    intro k i h0 h1 hm hd hk
    obtain ⟨k, rfl⟩ : ∃ m, k = m + 1 := ⟨k - 1, by omega⟩
    have hw : wrap64 (i + 1) = i + 1 := w64 (by omega) (by omega)
    have := ih k (i + 1) (by omega) (by omega) hm (by omega) (by omega)
    simp only [laws_lhInts.l0]
    rw [if_pos (by omega), if_pos h0]
    simp only [hw, this, if_true]
    first | done | (rw [if_pos (by omega)]) | simp
theorem box_loop (l : List Int) (K : Nat) (hend : ∀ k, K ≤ k → laws_lhInts.f k l l = some true) (hin : ∀ x ∈ l, -1000000000 ≤ x ∧ x ≤ 1000000000) (d : Nat) : ∀ (k : Nat) (i : Int), 0 ≤ i → i ≤ l.length → l.length ≤ 1000000 → (l.length : Int) - i = d → d + K < k → laws_FnFixBox.l0 k l l i = some true := by
  induction d with
  | zero =>
    intro k i h0 h1 hm hd hk
    obtain ⟨k, rfl⟩ : ∃ m, k = m + 1 := ⟨k - 1, by omega⟩
    simp only [laws_FnFixBox.l0]; rw [if_neg (by omega), hend k (by omega)]
    have h5 : fmul 1000 1000 = 1000 := by decide
    simp only [Option.bind_some, if_true, i_mul, h5]
    first | done | rfl | decide
  | succ d ih =>
    intro k i h0 h1 hm hd hk
    obtain ⟨k, rfl⟩ : ∃ m, k = m + 1 := ⟨k - 1, by omega⟩
    have hw : wrap64 (i + 1) = i + 1 := w64 (by omega) (by omega)
    have := ih k (i + 1) (by omega) (by omega) hm (by omega) (by omega)
    have hb : -1000000000 ≤ rd l i ∧ rd l i ≤ 1000000000 := by
      unfold rd
      rw [List.getD_eq_getElem?_getD]
      rcases hq : l[i.toNat]? with _ | x
      · simp
      · exact hin x (List.mem_of_getElem? hq)
    have hl : laws_lhIn.f (rd l i) (-1000000000) 1000000000 = some true := by
      simp only [laws_lhIn.f]; rw [if_pos hb.1, decide_eq_true hb.2]
    simp only [laws_FnFixBox.l0]
    rw [if_pos (by omega), if_pos h0, hl]
    simp only [Option.bind_some, if_true, hw, this]
theorem FnFixBox : laws_FnFixBox.Pure := by
  intro l0 hl1 hl2 hl3
  obtain ⟨a, b, ha, hb, hd⟩ := two_ok l0 hl3

  obtain ⟨r, hr, K, hK⟩ := fixroots a
  obtain ⟨s, hs, K2, hK2⟩ := norms a b
  obtain ⟨k, hk⟩ : ∃ k, k = max (max K K2) 1 + 30 := ⟨_, rfl⟩
  refine ⟨k, ?_⟩
  simp only [laws_FnFixBox.f]
  by_cases h0 : (l0.length : Int) > 1048576
  · rw [if_pos h0]
  · rw [if_neg h0]
    obtain ⟨e1, e2⟩ := hK k (by omega)
    obtain ⟨e3, e4⟩ := hK2 k (by omega)
    simp only [hd k (by omega), Option.bind_some, i_add, s_add, i_cl, s_cl, i_mul, s_mul, i_div, s_div, e1, e2, e3, e4]
    have hle : 0 ≤ r ∧ r ≤ 1000000 := by
      obtain ⟨r0, r1, r2⟩ := hr
      have := cl_bd a
      refine ⟨r0, ?_⟩
      rcases lt_ge 1000000 r with h | h
      · have := sq_mono (show (0 : Int) ≤ 1000001 by omega) (show 1000001 ≤ r by omega); omega
      · exact h
    refine box_loop _ 10 (fun k' hk' => ?_) ?_ 6 k 0 (by omega) (by simp) (by simp) (by simp) (by omega)
    · simp only [laws_lhInts.f]
      rw [if_pos trivial]
      exact lhInts_same _ 6 k' 0 (by omega) (by simp) (by simp) (by simp) (by omega)
    · intro x hx
      have c1 := cl_bd a
      have c2 := cl_bd s
      have c3 := fdiv_bd a b
      have c4 : -1000000000 ≤ fmul a b ∧ fmul a b ≤ 1000000000 := cl_bd _
      have c5 : -1000000000 ≤ fadd a b ∧ fadd a b ≤ 1000000000 := cl_bd _
      simp only [List.mem_cons, List.not_mem_nil, or_false] at hx
      rcases hx with rfl | rfl | rfl | rfl | rfl | rfl <;> omega
end Go.Proofs.Ytacbmhkdeceomaa.Pure
