/- Of two drawn numbers: what was divided, times by what, is what it was, but for what was cut off. Conditions: the bytes' number is within the row's reach. -/
import Derived.Test.YtacbmhkdeceomaaPFnFixDivx2
set_option linter.unusedVariables false
set_option linter.unusedSimpArgs false
namespace Go.Proofs.Ytacbmhkdeceomaa.Pure
open Go.RowKit Go.Proofs.Ytacbmhkdeceomaa.PFnFixDiv Go.Proofs.YtacbmhkdeceomaaW.PrintWords Go.Proofs.YtacbmhkdeceomaaW.PrintLast Go.Proofs.YtacbmhkdeceomaaW.PrintMore
theorem w64 {n : Int} (h : -9223372036854775808 ≤ n) (h' : n ≤ 9223372036854775807) : wrap64 n = n := by unfold wrap64; omega
theorem lt_ge (a b : Int) : a < b ∨ b ≤ a := by omega
/-! drawing -/
theorem i64_xor (a b : Int) (h1 : 0 ≤ a) (h2 : a < 9223372036854775808) (h3 : 0 ≤ b) (h4 : b < 9223372036854775808) : Go.bits .xor .i64 a b = ((a.toNat ^^^ b.toNat : Nat) : Int) := by
  obtain ⟨a, rfl⟩ := Int.eq_ofNat_of_zero_le h1
  obtain ⟨b, rfl⟩ := Int.eq_ofNat_of_zero_le h3
  have ha' : a % 2 ^ IntKind.i64.bits = a := Nat.mod_eq_of_lt (by show a < 2 ^ 64; omega)
  have hb' : b % 2 ^ IntKind.i64.bits = b := Nat.mod_eq_of_lt (by show b < 2 ^ 64; omega)
  have hx : a ^^^ b < 2 ^ 63 := Nat.xor_lt_two_pow (by omega) (by omega)
  simp only [Go.bits, BitVec.ofInt_natCast, BitVec.toNat_xor, BitVec.toNat_ofNat, ha', hb', Int.toNat_natCast]
  rw [IntKind.wrap_i64]
  omega
/-- The reader's bytes and its place. -/
def Rdr (b : List Int) (p : Int) : Prop := (∀ x ∈ b, 0 ≤ x ∧ x ≤ 255) ∧ b.length ≤ 2000 ∧ 0 ≤ p
theorem rd_byte {b : List Int} (h : ∀ x ∈ b, 0 ≤ x ∧ x ≤ 255) (i : Int) : 0 ≤ rd b i ∧ rd b i ≤ 255 := by
  unfold rd
  rw [List.getD_eq_getElem?_getD]
  rcases hq : b[i.toNat]? with _ | x
  · simp
  · exact h x (List.mem_of_getElem? hq)
theorem tmod_bd {a n : Int} (ha : 0 ≤ a) (hn : 0 < n) : 0 ≤ Int.tmod a n ∧ Int.tmod a n < n := ⟨Int.tmod_nonneg _ ha, Int.tmod_lt_of_pos _ hn⟩
theorem pick_ok (b : List Int) (p n : Int) (hR : Rdr b p) (hp : p ≤ 1000000) : ∃ v, 0 ≤ v ∧ (0 < n → v < n) ∧ (n < 1 → v = 0) ∧ ∀ k, 1 ≤ k → spec_l1Rd_pick.f k b p n = some (v, p + 1) := by
  obtain ⟨hb, hl, h0⟩ := hR
  have e1 : wrap64 (p + 1) = p + 1 := w64 (by omega) (by omega)
  by_cases hn : n < 1
  · refine ⟨0, by omega, by omega, fun _ => rfl, fun k hk => ?_⟩
    obtain ⟨k, rfl⟩ : ∃ m, k = m + 1 := ⟨k - 1, by omega⟩
    simp only [spec_l1Rd_pick.f, spec_l1Rd_pick.j0]
    rw [if_pos hn, if_pos trivial, e1]
  · have e2 : wrap64 (p + 1 - 1) = p := by rw [w64 (by omega) (by omega)]; omega
    by_cases hz : b.length = 0
    · refine ⟨0, by omega, by omega, fun _ => rfl, fun k hk => ?_⟩
      obtain ⟨k, rfl⟩ : ∃ m, k = m + 1 := ⟨k - 1, by omega⟩
      simp only [spec_l1Rd_pick.f, spec_l1Rd_pick.j0]
      rw [if_neg hn, if_pos (beq_iff_eq.mpr (by omega)), e1]
    · have hz' : ((b.length : Int) == 0) = false := beq_eq_false_iff_ne.mpr (by omega)
      by_cases hlt : p < (b.length : Int)
      · obtain ⟨r1, r2⟩ := rd_byte hb p
        obtain ⟨m1, m2⟩ := tmod_bd r1 (show 0 < n by omega)
        refine ⟨Int.tmod (rd b p) n, m1, fun _ => m2, by omega, fun k hk => ?_⟩
        obtain ⟨k, rfl⟩ : ∃ m, k = m + 1 := ⟨k - 1, by omega⟩
        simp only [spec_l1Rd_pick.f, spec_l1Rd_pick.j0, hz', e1, e2]
        rw [if_neg hn, if_neg (by decide), if_pos hlt, if_pos h0, if_neg (by omega), w64 (n := rd b p) (by omega) (by omega)]
      · have e3 : wrap64 (p * 7) = p * 7 := w64 (by omega) (by omega)
        have e4 : wrap64 (p * 7 + 3) = p * 7 + 3 := w64 (by omega) (by omega)
        have e5 : wrap64 (p * 29) = p * 29 := w64 (by omega) (by omega)
        obtain ⟨i, hi⟩ : ∃ i, i = Int.tmod p (b.length : Int) := ⟨_, rfl⟩
        obtain ⟨j, hj⟩ : ∃ j, j = Int.tmod (p * 7 + 3) (b.length : Int) := ⟨_, rfl⟩
        obtain ⟨i1, i2⟩ := tmod_bd h0 (show 0 < (b.length : Int) by omega)
        obtain ⟨j1, j2⟩ := tmod_bd (show 0 ≤ p * 7 + 3 by omega) (show 0 < (b.length : Int) by omega)
        rw [← hi] at i1 i2
        rw [← hj] at j1 j2
        obtain ⟨a1, a2⟩ := rd_byte hb i
        obtain ⟨c1, c2⟩ := rd_byte hb j
        obtain ⟨q, hq⟩ : ∃ q, q = Int.tdiv p (b.length : Int) := ⟨_, rfl⟩
        have q1 : 0 ≤ q ∧ q ≤ p := by
          rw [hq, Int.tdiv_eq_ediv_of_nonneg h0]
          exact ⟨Int.ediv_nonneg h0 (by omega), Int.ediv_le_self _ h0⟩
        have f1 : wrap64 (rd b i) = rd b i := w64 (by omega) (by omega)
        have f2 : wrap64 (rd b j) = rd b j := w64 (by omega) (by omega)
        have f3 : wrap64 (rd b i * 131) = rd b i * 131 := w64 (by omega) (by omega)
        have f4 : wrap64 (rd b j * 1117) = rd b j * 1117 := w64 (by omega) (by omega)
        have f5 : wrap64 q = q := w64 (by omega) (by omega)
        have f6 : wrap64 (q * 53) = q * 53 := w64 (by omega) (by omega)
        have f7 : wrap64 (rd b i * 131 + rd b j * 1117) = rd b i * 131 + rd b j * 1117 := w64 (by omega) (by omega)
        have f8 : wrap64 (rd b i * 131 + rd b j * 1117 + p * 29) = rd b i * 131 + rd b j * 1117 + p * 29 := w64 (by omega) (by omega)
        obtain ⟨x, hx⟩ : ∃ x, x = rd b i * 131 + rd b j * 1117 + p * 29 + q * 53 := ⟨_, rfl⟩
        have f9 : wrap64 (rd b i * 131 + rd b j * 1117 + p * 29 + q * 53) = x := by rw [hx]; exact w64 (by omega) (by omega)
        have x1 : 0 ≤ x := by omega
        have x2 : x ≤ 100000000 := by omega
        have f10 : wrap64 (Int.tdiv x 64) = x / 64 := by rw [Int.tdiv_eq_ediv_of_nonneg x1]; exact w64 (by omega) (by omega)
        have f11 := i64_xor x (x / 64) x1 (by omega) (by omega) (by omega)
        obtain ⟨m1, m2⟩ := tmod_bd (Int.natCast_nonneg (x.toNat ^^^ (x / 64).toNat)) (show 0 < n by omega)
        refine ⟨Int.tmod ((x.toNat ^^^ (x / 64).toNat : Nat) : Int) n, m1, fun _ => m2, by omega, fun k hk => ?_⟩
        obtain ⟨k, rfl⟩ : ∃ m, k = m + 1 := ⟨k - 1, by omega⟩
        simp only [spec_l1Rd_pick.f, spec_l1Rd_pick.j0, hz', e1, e2, e3, e4, e5, ← hi, ← hj, ← hq, f1, f2, f3, f4, f5, f6, f7, f8, f9, f10, f11]
        rw [if_neg hn, if_neg (by decide), if_neg hlt, if_neg (by omega), if_pos i1, if_pos i2, if_pos j1, if_pos j2, if_neg (by omega)]
theorem rdr_next {b : List Int} {p : Int} (h : Rdr b p) : Rdr b (p + 1) := ⟨h.1, h.2.1, by have := h.2.2; omega⟩
theorem open_ok (l : List Int) (hl : ∀ x ∈ l, (Lit.int .u8 x).wf = true) : ∃ b, Rdr b 0 ∧ spec_l1Open.f l = some (b, 0) := by
  have hw : ∀ x ∈ l, 0 ≤ x ∧ x ≤ 255 := by
    intro x hx
    have := hl x hx
    have h2 := (Bool.and_eq_true _ _).mp this
    have h3 := of_decide_eq_true h2.1
    have h4 := of_decide_eq_true h2.2
    exact ⟨h3, h4⟩
  simp only [spec_l1Open.f]
  by_cases h : (l.length : Int) > 2000
  · rw [if_pos h, if_pos (by omega)]
    exact ⟨l.take 2000, ⟨fun x hx => hw x (List.mem_of_mem_take hx), by rw [List.length_take]; omega, by omega⟩, rfl⟩
  · rw [if_neg h]
    exact ⟨l, ⟨hw, by omega, by omega⟩, rfl⟩
def I64 (a : Int) : Prop := -9223372036854775808 ≤ a ∧ a ≤ 9223372036854775807
theorem num_ok (b : List Int) (p : Int) (hR : Rdr b p) (hp : p ≤ 1000) : ∃ v, I64 v ∧ ∀ k, 1 ≤ k → spec_l61Num.f k b p = some (v, p + 4) := by
  obtain ⟨v1, a1, b1, -, h1⟩ := pick_ok b p 9 hR (by omega)
  have R1 := rdr_next hR
  obtain ⟨v2, a2, b2, -, h2⟩ := pick_ok b (p + 1) 9 R1 (by omega)
  have R2 := rdr_next R1
  obtain ⟨v3, a3, b3, -, h3⟩ := pick_ok b (p + 1 + 1) 100000 R2 (by omega)
  have R3 := rdr_next R2
  obtain ⟨v4, a4, b4, -, h4⟩ := pick_ok b (p + 1 + 1 + 1) 8 R3 (by omega)
  have b1 := b1 (by omega)
  have b2 := b2 (by omega)
  have b3 := b3 (by omega)
  have b4 := b4 (by omega)
  have e1 : wrap64 (v1 - 4) = v1 - 4 := w64 (by omega) (by omega)
  have e2 : wrap64 (v2 - 4) = v2 - 4 := w64 (by omega) (by omega)
  have e3 : wrap64 (1000 * (v2 - 4)) = 1000 * (v2 - 4) := w64 (by omega) (by omega)
  have ep : p + 1 + 1 + 1 + 1 = p + 4 := by omega
  refine ⟨rd [v1 - 4, 1000 * (v2 - 4), 1000000000, -1000000000, 1000000001, v3, 4611686018427387904, -9223372036854775808] v4, ?_, fun k hk => ?_⟩
  · obtain rfl | rfl | rfl | rfl | rfl | rfl | rfl | rfl : v4 = 0 ∨ v4 = 1 ∨ v4 = 2 ∨ v4 = 3 ∨ v4 = 4 ∨ v4 = 5 ∨ v4 = 6 ∨ v4 = 7 := by omega
    all_goals simp [rd, I64]; try omega
  · simp only [spec_l61Num.f, h1 k hk, h2 k hk, h3 k hk, h4 k hk, Option.bind_some, e1, e2, e3, ep]
    rw [if_pos a4, if_pos (by simp; omega)]
theorem two_ok (l : List Int) (hl : ∀ x ∈ l, (Lit.int .u8 x).wf = true) : ∃ u v, I64 u ∧ I64 v ∧ ∀ k, 1 ≤ k → spec_DrawFixAdd.f k l = some (u, v) := by
  obtain ⟨b, hR, ho⟩ := open_ok l hl
  obtain ⟨u, hu, h1⟩ := num_ok b 0 hR (by omega)
  obtain ⟨v, hv, h2⟩ := num_ok b (0 + 4) ⟨hR.1, hR.2.1, by omega⟩ (by omega)
  refine ⟨u, v, hu, hv, fun k hk => ?_⟩
  simp only [spec_DrawFixAdd.f, ho, Option.bind_some, h1 k hk, h2 k hk]
/-! the clamp -/
def cl (a : Int) : Int := max (-1000000000) (min a 1000000000)
theorem cl_bd (a : Int) : -1000000000 ≤ cl a ∧ cl a ≤ 1000000000 := by unfold cl; omega
theorem cl_in {a : Int} (h : -1000000000 ≤ a) (h' : a ≤ 1000000000) : cl a = a := by unfold cl; omega
theorem s_cl (a : Int) : spec_FixClamp.f a = some (cl a) := by
  simp only [spec_FixClamp.f, spec_l1Box.f, cl]
  by_cases h1 : a < -1000000000
  · rw [if_pos h1]; simp only [Option.bind_some]; congr 1; omega
  · rw [if_neg h1]
    by_cases h2 : a > 1000000000
    · rw [if_pos h2]; simp only [Option.bind_some]; congr 1; omega
    · rw [if_neg h2]; simp only [Option.bind_some]; congr 1; omega
theorem i_cl (a : Int) : impl_FixClamp.f a = some (cl a) := by
  simp only [impl_FixClamp.f, impl_clamp.f, cl, Option.bind_some, mx, mn]
  congr 1
  split <;> split <;> omega
/-! products and quotients -/
theorem mul_bd {x y : Int} (hx : -1000000000 ≤ x ∧ x ≤ 1000000000) (hy : -1000000000 ≤ y ∧ y ≤ 1000000000) : -1000000000000000000 ≤ x * y ∧ x * y ≤ 1000000000000000000 := by
  have h : (x * y).natAbs ≤ 1000000000 * 1000000000 := by
    rw [Int.natAbs_mul]; exact Nat.mul_le_mul (by omega) (by omega)
  omega
theorem cl_cl (a : Int) : cl (cl a) = cl a := cl_in (cl_bd a).1 (cl_bd a).2
theorem cl_neg (a : Int) : cl (-a) = -cl a := by unfold cl; omega
theorem tdiv_bd (a b : Int) : (Int.tdiv a b).natAbs ≤ a.natAbs := by rw [Int.natAbs_tdiv]; exact Nat.div_le_self _ _
def fdiv (a b : Int) : Int := if cl b = 0 then (if cl a > 0 then 1000000000 else if cl a < 0 then -1000000000 else 0) else cl (Int.tdiv (cl a * 1000) (cl b))
theorem div_bd (a b : Int) : (Int.tdiv (cl a * 1000) (cl b)).natAbs ≤ 1000000000000 := by
  have h2 := tdiv_bd (cl a * 1000) (cl b)
  have := cl_bd a
  omega
theorem s_div (a b : Int) : spec_FixDiv.f a b = some (fdiv a b) := by
  have h := cl_bd a
  have e1 : wrap64 (cl a * 1000) = cl a * 1000 := w64 (by omega) (by omega)
  have h2 := div_bd a b
  have e2 : wrap64 (Int.tdiv (cl a * 1000) (cl b)) = Int.tdiv (cl a * 1000) (cl b) := w64 (by omega) (by omega)
  simp only [spec_FixDiv.f, s_cl, Option.bind_some, e1, e2, fdiv]
  by_cases h0 : cl b = 0
  · simp only [if_pos h0]
    by_cases h1 : cl a > 0
    · simp only [if_pos h1]
    · simp only [if_neg h1]
      by_cases h2 : cl a < 0
      · simp only [if_pos h2]
      · simp only [if_neg h2]
  · simp only [if_neg h0]
theorem i_div (a b : Int) : impl_FixDiv.f a b = some (fdiv a b) := by
  have h := cl_bd a
  have e1 : wrap64 (cl a * 1000) = cl a * 1000 := w64 (by omega) (by omega)
  have h2 := div_bd a b
  have e2 : wrap64 (Int.tdiv (cl a * 1000) (cl b)) = Int.tdiv (cl a * 1000) (cl b) := w64 (by omega) (by omega)
  simp only [impl_FixDiv.f, i_cl, Option.bind_some, e1, e2, fdiv]
  by_cases h0 : cl b = 0
  · simp only [if_pos h0]
    by_cases h1 : cl a > 0
    · simp only [if_pos h1]
    · simp only [if_neg h1]
      by_cases h2 : cl a < 0
      · simp only [if_pos h2]
      · simp only [if_neg h2]
  · simp only [if_neg h0]
theorem fdiv_bd (a b : Int) : -1000000000 ≤ fdiv a b ∧ fdiv a b ≤ 1000000000 := by
  unfold fdiv
  split
  · split
    · omega
    · split <;> omega
  · exact cl_bd _
theorem fdiv_one (a : Int) : fdiv a 1000 = cl a := by
  unfold fdiv
  rw [show cl 1000 = 1000 from by decide, if_neg (by decide), Int.mul_tdiv_cancel _ (by omega), cl_cl]
theorem abs_some (a : Int) (h : -9223372036854775808 < a) (h' : a ≤ 9223372036854775807) : laws_lhAbs.f a = some (a.natAbs : Int) := by
  simp only [laws_lhAbs.f]
  by_cases h0 : a < 0
  · rw [if_pos h0, w64 (by omega) (by omega)]; congr 1; omega
  · rw [if_neg h0]; congr 1; omega
theorem tmod_lt (a b : Int) (hb : b ≠ 0) : (Int.tmod a b).natAbs < b.natAbs := by
  rw [Int.natAbs_tmod]; exact Nat.mod_lt _ (by omega)
theorem FnFixDiv : laws_FnFixDiv.Pure := by
  intro l0 hl1 hl2 hl3
  obtain ⟨a, b, ha, hb, hd⟩ := two_ok l0 hl3

  refine ⟨3, ?_⟩
  simp only [laws_FnFixDiv.f]
  by_cases h0 : (l0.length : Int) > 1048576
  · rw [if_pos h0]
  · rw [if_neg h0]
    have hx := fdiv_bd a b
    have hp := cl_bd a
    have hq := cl_bd b
    have h5 : fdiv 6000 2000 = 3000 := by decide
    have hdm : spec_DrawFixDiv.f 3 l0 = some (a, b) := by simp only [spec_DrawFixDiv.f, hd 3 (by omega), Option.bind_some]
    simp only [hdm, Option.bind_some, i_div, s_div, i_cl, fdiv_one, h5]
    rw [if_pos trivial, if_pos trivial]
    rw [show ((3000 : Int) != 3000) = false from rfl]
    simp only [laws_FnFixDiv.j0, i_cl, Option.bind_some]
    rw [if_neg (by decide)]
    by_cases hz : cl b = 0
    · rw [if_pos hz]
      simp only [laws_FnFixDiv.j1]
      rw [if_pos trivial, if_pos hz]
      unfold fdiv
      rw [if_pos hz]
      by_cases hpos : cl a > 0
      · simp only [if_pos hpos]
        rw [if_neg (by omega), if_pos trivial]
      · simp only [if_neg hpos]
        by_cases hneg : cl a < 0
        · simp only [if_pos hneg]
          rw [if_neg (by omega)]; rfl
        · simp only [if_neg hneg]
          rw [if_pos (by omega), if_pos trivial]
    · rw [if_neg hz, abs_some (fdiv a b) (by omega) (by omega)]
      simp only [Option.bind_some, laws_FnFixDiv.j1]
      by_cases hm : ((fdiv a b).natAbs : Int) = 1000000000
      · rw [if_pos (beq_iff_eq.mpr hm), if_neg hz]
      · rw [if_neg (fun h => hm (beq_iff_eq.mp h))]
        have hxq := mul_bd hx hq
        have e1 : wrap64 (cl a * 1000) = cl a * 1000 := w64 (by omega) (by omega)
        have e2 : wrap64 (fdiv a b * cl b) = fdiv a b * cl b := w64 (by omega) (by omega)
        have e3 : wrap64 (cl a * 1000 - fdiv a b * cl b) = cl a * 1000 - fdiv a b * cl b := w64 (by omega) (by omega)
        rw [e1, e2, e3, abs_some _ (by omega) (by omega), abs_some _ (by omega) (by omega)]
        simp only [Option.bind_some]
        have hf : fdiv a b = Int.tdiv (cl a * 1000) (cl b) := by
          have : fdiv a b = cl (Int.tdiv (cl a * 1000) (cl b)) := by unfold fdiv; rw [if_neg hz]
          rw [this] at hm ⊢
          unfold cl at hm ⊢
          omega
        have ht : cl a * 1000 - fdiv a b * cl b = Int.tmod (cl a * 1000) (cl b) := by
          rw [hf, Int.tmod_def, Int.mul_comm (cl b)]
        rw [ht, decide_eq_true (by have := tmod_lt (cl a * 1000) (cl b) hz; omega)]
end Go.Proofs.Ytacbmhkdeceomaa.Pure
