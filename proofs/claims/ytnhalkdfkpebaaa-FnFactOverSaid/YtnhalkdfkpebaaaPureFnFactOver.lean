/- Of two drawn facts of one node that are not the same just one overrides the other. Conditions: the bytes' number is within the row's reach. -/
import Derived.Test.YtnhalkdfkpebaaaPFnFactOverx
set_option linter.unusedVariables false
set_option linter.unusedSimpArgs false
namespace Go.Proofs.Ytnhalkdfkpebaaa.Pure
open Go.RowKit Go.Proofs.Ytnhalkdfkpebaaa.PFnFactOver Go.Proofs.YtnhalkdfkpebaaaW.PrintWords Go.Proofs.YtnhalkdfkpebaaaW.PrintLast Go.Proofs.YtnhalkdfkpebaaaW.PrintMore
theorem w64 {n : Int} (h : -9223372036854775808 ≤ n) (h' : n ≤ 9223372036854775807) : wrap64 n = n := by unfold wrap64; omega
theorem lt_ge (a b : Int) : a < b ∨ b ≤ a := by omega
/-! drawing -/
theorem i64_xor (a b : Int) (h1 : 0 ≤ a) (h2 : a < 9223372036854775808) (h3 : 0 ≤ b) (h4 : b < 9223372036854775808) : Go.bits .xor .i64 a b = ((a.toNat ^^^ b.toNat : Nat) : Int) := by
  obtain ⟨a, rfl⟩ := Int.eq_ofNat_of_zero_le h1
  obtain ⟨b, rfl⟩ := Int.eq_ofNat_of_zero_le h3
  have ha' : a % 2 ^ IntKind.i64.bits = a := Nat.mod_eq_of_lt (by show a < 2 ^ 64; omega)
  have hb' : b % 2 ^ IntKind.i64.bits = b := Nat.mod_eq_of_lt (by show b < 2 ^ 64; omega)
  have hx : a ^^^ b < 2 ^ 63 := Nat.xor_lt_two_pow (by omega) (by omega)
  simp only [Go.bits, BitVec.ofInt_natCast, BitVec.toNat_xor, BitVec.toNat_ofNat, ha', hb', Int.toNat_natCast]
  rw [IntKind.wrap_i64]
  omega
/-- The reader's bytes and its place. -/
def Rdr (b : List Int) (p : Int) : Prop := (∀ x ∈ b, 0 ≤ x ∧ x ≤ 255) ∧ b.length ≤ 2000 ∧ 0 ≤ p
theorem rd_byte {b : List Int} (h : ∀ x ∈ b, 0 ≤ x ∧ x ≤ 255) (i : Int) : 0 ≤ rd b i ∧ rd b i ≤ 255 := by
  unfold rd
  rw [List.getD_eq_getElem?_getD]
  rcases hq : b[i.toNat]? with _ | x
  · simp
  · exact h x (List.mem_of_getElem? hq)
theorem tmod_bd {a n : Int} (ha : 0 ≤ a) (hn : 0 < n) : 0 ≤ Int.tmod a n ∧ Int.tmod a n < n := ⟨Int.tmod_nonneg _ ha, Int.tmod_lt_of_pos _ hn⟩
theorem pick_ok (b : List Int) (p n : Int) (hR : Rdr b p) (hp : p ≤ 1000000) : ∃ v, 0 ≤ v ∧ (0 < n → v < n) ∧ (n < 1 → v = 0) ∧ ∀ k, 1 ≤ k → spec_l1Rd_pick.f k b p n = some (v, p + 1) := by
  obtain ⟨hb, hl, h0⟩ := hR
  have e1 : wrap64 (p + 1) = p + 1 := w64 (by omega) (by omega)
  by_cases hn : n < 1
  · refine ⟨0, by omega, by omega, fun _ => rfl, fun k hk => ?_⟩
    obtain ⟨k, rfl⟩ : ∃ m, k = m + 1 := ⟨k - 1, by omega⟩
    simp only [spec_l1Rd_pick.f, spec_l1Rd_pick.j0]
    rw [if_pos hn, if_pos trivial, e1]
  · have e2 : wrap64 (p + 1 - 1) = p := by rw [w64 (by omega) (by omega)]; omega
    by_cases hz : b.length = 0
    · refine ⟨0, by omega, by omega, fun _ => rfl, fun k hk => ?_⟩
      obtain ⟨k, rfl⟩ : ∃ m, k = m + 1 := ⟨k - 1, by omega⟩
      simp only [spec_l1Rd_pick.f, spec_l1Rd_pick.j0]
      rw [if_neg hn, if_pos (beq_iff_eq.mpr (by omega)), e1]
    · have hz' : ((b.length : Int) == 0) = false := beq_eq_false_iff_ne.mpr (by omega)
      by_cases hlt : p < (b.length : Int)
      · obtain ⟨r1, r2⟩ := rd_byte hb p
        obtain ⟨m1, m2⟩ := tmod_bd r1 (show 0 < n by omega)
        refine ⟨Int.tmod (rd b p) n, m1, fun _ => m2, by omega, fun k hk => ?_⟩
        obtain ⟨k, rfl⟩ : ∃ m, k = m + 1 := ⟨k - 1, by omega⟩
        simp only [spec_l1Rd_pick.f, spec_l1Rd_pick.j0, hz', e1, e2]
        rw [if_neg hn, if_neg (by decide), if_pos hlt, if_pos h0, if_neg (by omega), w64 (n := rd b p) (by omega) (by omega)]
      · have e3 : wrap64 (p * 7) = p * 7 := w64 (by omega) (by omega)
        have e4 : wrap64 (p * 7 + 3) = p * 7 + 3 := w64 (by omega) (by omega)
        have e5 : wrap64 (p * 29) = p * 29 := w64 (by omega) (by omega)
        obtain ⟨i, hi⟩ : ∃ i, i = Int.tmod p (b.length : Int) := ⟨_, rfl⟩
        obtain ⟨j, hj⟩ : ∃ j, j = Int.tmod (p * 7 + 3) (b.length : Int) := ⟨_, rfl⟩
        obtain ⟨i1, i2⟩ := tmod_bd h0 (show 0 < (b.length : Int) by omega)
        obtain ⟨j1, j2⟩ := tmod_bd (show 0 ≤ p * 7 + 3 by omega) (show 0 < (b.length : Int) by omega)
        rw [← hi] at i1 i2
        rw [← hj] at j1 j2
        obtain ⟨a1, a2⟩ := rd_byte hb i
        obtain ⟨c1, c2⟩ := rd_byte hb j
        obtain ⟨q, hq⟩ : ∃ q, q = Int.tdiv p (b.length : Int) := ⟨_, rfl⟩
        have q1 : 0 ≤ q ∧ q ≤ p := by
          rw [hq, Int.tdiv_eq_ediv_of_nonneg h0]
          exact ⟨Int.ediv_nonneg h0 (by omega), Int.ediv_le_self _ h0⟩
        have f1 : wrap64 (rd b i) = rd b i := w64 (by omega) (by omega)
        have f2 : wrap64 (rd b j) = rd b j := w64 (by omega) (by omega)
        have f3 : wrap64 (rd b i * 131) = rd b i * 131 := w64 (by omega) (by omega)
        have f4 : wrap64 (rd b j * 1117) = rd b j * 1117 := w64 (by omega) (by omega)
        have f5 : wrap64 q = q := w64 (by omega) (by omega)
        have f6 : wrap64 (q * 53) = q * 53 := w64 (by omega) (by omega)
        have f7 : wrap64 (rd b i * 131 + rd b j * 1117) = rd b i * 131 + rd b j * 1117 := w64 (by omega) (by omega)
        have f8 : wrap64 (rd b i * 131 + rd b j * 1117 + p * 29) = rd b i * 131 + rd b j * 1117 + p * 29 := w64 (by omega) (by omega)
        obtain ⟨x, hx⟩ : ∃ x, x = rd b i * 131 + rd b j * 1117 + p * 29 + q * 53 := ⟨_, rfl⟩
        have f9 : wrap64 (rd b i * 131 + rd b j * 1117 + p * 29 + q * 53) = x := by rw [hx]; exact w64 (by omega) (by omega)
        have x1 : 0 ≤ x := by omega
        have x2 : x ≤ 100000000 := by omega
        have f10 : wrap64 (Int.tdiv x 64) = x / 64 := by rw [Int.tdiv_eq_ediv_of_nonneg x1]; exact w64 (by omega) (by omega)
        have f11 := i64_xor x (x / 64) x1 (by omega) (by omega) (by omega)
        obtain ⟨m1, m2⟩ := tmod_bd (Int.natCast_nonneg (x.toNat ^^^ (x / 64).toNat)) (show 0 < n by omega)
        refine ⟨Int.tmod ((x.toNat ^^^ (x / 64).toNat : Nat) : Int) n, m1, fun _ => m2, by omega, fun k hk => ?_⟩
        obtain ⟨k, rfl⟩ : ∃ m, k = m + 1 := ⟨k - 1, by omega⟩
        simp only [spec_l1Rd_pick.f, spec_l1Rd_pick.j0, hz', e1, e2, e3, e4, e5, ← hi, ← hj, ← hq, f1, f2, f3, f4, f5, f6, f7, f8, f9, f10, f11]
        rw [if_neg hn, if_neg (by decide), if_neg hlt, if_neg (by omega), if_pos i1, if_pos i2, if_pos j1, if_pos j2, if_neg (by omega)]
theorem rdr_next {b : List Int} {p : Int} (h : Rdr b p) : Rdr b (p + 1) := ⟨h.1, h.2.1, by have := h.2.2; omega⟩
theorem open_ok (l : List Int) (hl : ∀ x ∈ l, (Lit.int .u8 x).wf = true) : ∃ b, Rdr b 0 ∧ spec_l1Open.f l = some (b, 0) := by
  have hw : ∀ x ∈ l, 0 ≤ x ∧ x ≤ 255 := by
    intro x hx
    have := hl x hx
    have h2 := (Bool.and_eq_true _ _).mp this
    have h3 := of_decide_eq_true h2.1
    have h4 := of_decide_eq_true h2.2
    exact ⟨h3, h4⟩
  simp only [spec_l1Open.f]
  by_cases h : (l.length : Int) > 2000
  · rw [if_pos h, if_pos (by omega)]
    exact ⟨l.take 2000, ⟨fun x hx => hw x (List.mem_of_mem_take hx), by rw [List.length_take]; omega, by omega⟩, rfl⟩
  · rw [if_neg h]
    exact ⟨l, ⟨hw, by omega, by omega⟩, rfl⟩
/-! ranges -/
theorem s_in (a l h : Int) : spec_l1In.f a l h = some (decide (l ≤ a) && decide (a ≤ h)) := by
  simp only [spec_l1In.f]
  by_cases h1 : a ≥ l
  · rw [if_pos h1, decide_eq_true (show l ≤ a from h1)]; rfl
  · rw [if_neg h1, decide_eq_false (show ¬ l ≤ a from h1)]; rfl
theorem i_in (a l h : Int) : impl_in.f a l h = some (decide (l ≤ a) && decide (a ≤ h)) := by
  simp only [impl_in.f]
  by_cases h1 : a ≥ l
  · rw [if_pos h1, decide_eq_true (show l ≤ a from h1)]; rfl
  · rw [if_neg h1, decide_eq_false (show ¬ l ≤ a from h1)]; rfl
theorem if_some {α : Type} (c : Bool) (x : α) (y z : Bool) : (if c = true then some y else some z : Option Bool) = some (if c = true then y else z) := by cases c <;> rfl
def inB (a l h : Int) : Bool := decide (l ≤ a) && decide (a ≤ h)
def factOk (n i s : Int) : Bool := inB n 0 7 && (inB i 0 999 && inB s 1 4)
theorem s_factOk (a b c : Int) (d : Bool) : spec_FactOk.f a b c d = some (factOk a b c) := by
  simp only [spec_FactOk.f, s_in, Option.bind_some, factOk, inB]
  cases (decide (0 ≤ a) && decide (a ≤ 7)) <;> cases (decide (0 ≤ b) && decide (b ≤ 999)) <;> simp
theorem i_factOk (a b c : Int) (d : Bool) : impl_FactOk.f a b c d = some (factOk a b c) := by
  simp only [impl_FactOk.f, impl_isNode.f, i_in, Option.bind_some, factOk, inB]
  cases (decide (0 ≤ a) && decide (a ≤ 7)) <;> cases (decide (0 ≤ b) && decide (b ≤ 999)) <;> simp
/-! which fact overrides which -/
def cmpI (a b : Int) : Int := if a < b then -1 else if a > b then 1 else 0
theorem cmp_eq (a b : Int) : cmp_Compare_int.f a b = some (cmpI a b) := by
  simp only [cmp_Compare_int.f, cmp_isNaN_int.f, Option.bind_some, bne_self_eq_false, Bool.false_eq_true, if_false, cmpI]
  by_cases h : a < b
  · rw [if_pos h, if_pos h]
  · rw [if_neg h, if_neg h]
    by_cases h2 : a > b
    · rw [if_pos h2, if_pos h2]
    · rw [if_neg h2, if_neg h2]
theorem or4 (a b c d : Int) (k : Nat) (hk : 5 ≤ k) : cmp_Or_int.f k [a, b, c, d] = some (if a = 0 then (if b = 0 then (if c = 0 then d else c) else b) else a) := by
  obtain ⟨k, rfl⟩ : ∃ m, k = m + 5 := ⟨k - 5, by omega⟩
  have e0 : wrap64 (0 + 1) = 1 := w64 (by omega) (by omega)
  have e1 : wrap64 (1 + 1) = 2 := w64 (by omega) (by omega)
  have e2 : wrap64 (2 + 1) = 3 := w64 (by omega) (by omega)
  have e3 : wrap64 (3 + 1) = 4 := w64 (by omega) (by omega)
  have r0 : rd [a, b, c, d] 0 = a := rfl
  have r1 : rd [a, b, c, d] 1 = b := rfl
  have r2 : rd [a, b, c, d] 2 = c := rfl
  have r3 : rd [a, b, c, d] 3 = d := rfl
  have hl : (([a, b, c, d] : List Int).length : Int) = 4 := rfl
  simp only [cmp_Or_int.f, cmp_Or_int.l0, hl, r0, e0]
  rw [if_pos (by decide), if_pos (by decide), if_pos (by decide)]
  by_cases ha : a = 0
  · rw [if_pos ha, if_pos ha]
    simp only [r1, e1]
    rw [if_pos (by decide), if_pos (by decide), if_pos (by decide)]
    by_cases hb : b = 0
    · rw [if_pos hb, if_pos hb]
      simp only [r2, e2]
      rw [if_pos (by decide), if_pos (by decide), if_pos (by decide)]
      by_cases hc : c = 0
      · rw [if_pos hc, if_pos hc]
        simp only [r3, e3]
        rw [if_pos (by decide), if_pos (by decide), if_pos (by decide)]
        by_cases hd : d = 0
        · rw [if_pos hd, if_neg (by decide), hd]
        · rw [if_neg hd]
      · rw [if_neg hc, if_neg hc]
    · rw [if_neg hb, if_neg hb]
  · rw [if_neg ha, if_neg ha]
def gateI (f g : Bool) : Int := if (f && !g) = true then 1 else if (g && !f) = true then -1 else 0
def cmpF (n i s : Int) (f : Bool) (n' i' s' : Int) (g : Bool) : Int := if cmpI n n' = 0 then (if cmpI i i' = 0 then (if cmpI s s' = 0 then gateI f g else cmpI s s') else cmpI i i') else cmpI n n'
theorem compare_eq (n i s : Int) (f : Bool) (n' i' s' : Int) (g : Bool) (k : Nat) (hk : 8 ≤ k) : impl_Fact_compare.f k n i s f n' i' s' g = some (cmpF n i s f n' i' s' g) := by
  obtain ⟨k, rfl⟩ : ∃ m, k = m + 2 := ⟨k - 2, by omega⟩
  have hj : ∀ x, impl_Fact_compare.j1 (k + 1) x n i s f n' i' s' g = some (if cmpI n n' = 0 then (if cmpI i i' = 0 then (if cmpI s s' = 0 then x else cmpI s s') else cmpI i i') else cmpI n n') := by
    intro x
    simp only [impl_Fact_compare.j1, cmp_eq, Option.bind_some, or4 _ _ _ _ k (by omega)]
  simp only [impl_Fact_compare.f, impl_Fact_compare.j0, hj, cmpF]
  cases f <;> cases g <;> rfl
def overB (i s : Int) (f : Bool) (i' s' : Int) (g : Bool) : Bool := if i = i' then (if s = s' then f && !g else decide (s > s')) else decide (i > i')
theorem cmpI_zero (a b : Int) : cmpI a b = 0 ↔ a = b := by
  unfold cmpI
  split
  · omega
  · split <;> omega
theorem cmpI_pos (a b : Int) : (decide (cmpI a b > 0)) = decide (a > b) := by
  unfold cmpI
  split
  · rw [decide_eq_false (by omega), decide_eq_false (by omega)]
  · split
    · rw [decide_eq_true (by omega), decide_eq_true (by omega)]
    · rw [decide_eq_false (by omega), decide_eq_false (by omega)]
theorem cmpF_pos (n i s : Int) (f : Bool) (i' s' : Int) (g : Bool) : decide (cmpF n i s f n i' s' g > 0) = overB i s f i' s' g := by
  unfold cmpF overB
  rw [if_pos ((cmpI_zero _ _).mpr rfl)]
  by_cases h1 : i = i'
  · rw [if_pos ((cmpI_zero _ _).mpr h1), if_pos h1]
    by_cases h2 : s = s'
    · rw [if_pos ((cmpI_zero _ _).mpr h2), if_pos h2]
      cases f <;> cases g <;> rfl
    · rw [if_neg (fun h => h2 ((cmpI_zero _ _).mp h)), if_neg h2, cmpI_pos]
  · rw [if_neg (fun h => h1 ((cmpI_zero _ _).mp h)), if_neg h1, cmpI_pos]
def factOver (n i s : Int) (f : Bool) (n' i' s' : Int) (g : Bool) : Bool := factOk n i s && (factOk n' i' s' && (decide (n = n') && overB i s f i' s' g))
theorem s_l3Over (n i s : Int) (f : Bool) (n' i' s' : Int) (g : Bool) : spec_l3Over.f n i s f n' i' s' g = some (overB i s f i' s' g) := by
  simp only [spec_l3Over.f, overB]
  by_cases h1 : i = i'
  · rw [if_pos h1, if_pos h1]
    by_cases h2 : s = s'
    · rw [if_pos h2, if_pos h2]
      cases f <;> rfl
    · rw [if_neg h2, if_neg h2]
  · rw [if_neg h1, if_neg h1]
theorem s_over (n i s : Int) (f : Bool) (n' i' s' : Int) (g : Bool) : spec_FactOver.f n i s f n' i' s' g = some (factOver n i s f n' i' s' g) := by
  simp only [spec_FactOver.f, s_factOk, s_l3Over, Option.bind_some, factOver]
  cases factOk n i s
  · rfl
  · cases factOk n' i' s'
    · rfl
    · by_cases h : n = n'
      · rw [if_pos rfl, if_pos rfl, if_pos h, decide_eq_true h]; rfl
      · rw [if_pos rfl, if_pos rfl, if_neg h, decide_eq_false h]; rfl
theorem i_over (n i s : Int) (f : Bool) (n' i' s' : Int) (g : Bool) (k : Nat) (hk : 8 ≤ k) : impl_FactOver.f k n i s f n' i' s' g = some (factOver n i s f n' i' s' g) := by
  simp only [impl_FactOver.f, i_factOk, compare_eq _ _ _ _ _ _ _ _ k hk, Option.bind_some, factOver]
  cases factOk n i s
  · rfl
  · cases factOk n' i' s'
    · rfl
    · by_cases h : n = n'
      · subst h
        rw [if_pos rfl, if_pos rfl, if_pos rfl, decide_eq_true rfl, cmpF_pos]; rfl
      · rw [if_pos rfl, if_pos rfl, if_neg h, decide_eq_false h]; rfl
theorem fact_ok (b : List Int) (p site : Int) (hR : Rdr b p) (hp : p ≤ 100000) : ∃ n i s g q, Rdr b q ∧ q ≤ p + 5 ∧ ∀ k, 1 ≤ k → spec_l61Fact.f k b p site = some (n, i, s, g, q) := by
  obtain ⟨v1, a1, b1, -, h1⟩ := pick_ok b p 4 hR (by omega)
  have R1 := rdr_next hR
  obtain ⟨v2, a2, b2, -, h2⟩ := pick_ok b (p + 1) 3 R1 (by omega)
  have R2 := rdr_next R1
  obtain ⟨v3, a3, b3, -, h3⟩ := pick_ok b (p + 1 + 1) 12 R2 (by omega)
  have R3 := rdr_next R2
  obtain ⟨v4, a4, b4, -, h4⟩ := pick_ok b (p + 1 + 1 + 1) 3 R3 (by omega)
  have R4 := rdr_next R3
  obtain ⟨v5, a5, b5, -, h5⟩ := pick_ok b (p + 1 + 1 + 1 + 1) 4 R4 (by omega)
  have b4 := b4 (by omega)
  refine ⟨wrap64 (wrap64 (site * 4) + v1), rd [v2, v3, 999] v4, wrap64 (1 + v5), decide (Int.tmod (wrap64 (wrap64 (site * 4) + v1)) 4 < 3), p + 1 + 1 + 1 + 1 + 1, rdr_next R4, by omega, fun k hk => ?_⟩
  simp only [spec_l61Fact.f, h1 k hk, h2 k hk, h3 k hk, h4 k hk, h5 k hk, Option.bind_some, spec_l51Gate.f]
  rw [if_pos a4, if_pos (by simp; omega)]
theorem anyFact_ok (b : List Int) (p : Int) (hR : Rdr b p) (hp : p ≤ 90000) : ∃ n i s g q, Rdr b q ∧ q ≤ p + 8 ∧ ∀ k, 1 ≤ k → spec_l61AnyFact.f k b p = some (n, i, s, g, q) := by
  obtain ⟨v0, a0, b0, -, h0⟩ := pick_ok b p 2 hR (by omega)
  obtain ⟨n, i, s, g, q, R0, hq, hf⟩ := fact_ok b (p + 1) v0 (rdr_next hR) (by omega)
  obtain ⟨v1, a1, b1, -, h1⟩ := pick_ok b q 12 R0 (by omega)
  have R1 := rdr_next R0
  obtain ⟨v2, a2, b2, -, h2⟩ := pick_ok b (q + 1) 2 R1 (by omega)
  have R2 := rdr_next R1
  have b2 := b2 (by omega)
  by_cases c0 : v1 = 0
  · refine ⟨rd [-1, 8] v2, i, s, g, q + 1 + 1, R2, by omega, fun k hk => ?_⟩
    simp only [spec_l61AnyFact.f, h0 k hk, hf k hk, h1 k hk, h2 k hk, Option.bind_some]
    rw [if_pos c0, if_pos a2, if_pos (by simp; omega)]
  · by_cases c1 : v1 = 1
    · refine ⟨n, rd [-1, 1000] v2, s, g, q + 1 + 1, R2, by omega, fun k hk => ?_⟩
      simp only [spec_l61AnyFact.f, h0 k hk, hf k hk, h1 k hk, h2 k hk, Option.bind_some]
      rw [if_neg c0, if_pos c1, if_pos a2, if_pos (by simp; omega)]
    · by_cases c2 : v1 = 2
      · refine ⟨n, i, rd [0, 5] v2, g, q + 1 + 1, R2, by omega, fun k hk => ?_⟩
        simp only [spec_l61AnyFact.f, h0 k hk, hf k hk, h1 k hk, h2 k hk, Option.bind_some]
        rw [if_neg c0, if_neg c1, if_pos c2, if_pos a2, if_pos (by simp; omega)]
      · by_cases c3 : v1 = 3
        · refine ⟨n, i, s, !g, q + 1, R1, by omega, fun k hk => ?_⟩
          simp only [spec_l61AnyFact.f, h0 k hk, hf k hk, h1 k hk, Option.bind_some]
          rw [if_neg c0, if_neg c1, if_neg c2, if_pos c3]
        · refine ⟨n, i, s, g, q + 1, R1, by omega, fun k hk => ?_⟩
          simp only [spec_l61AnyFact.f, h0 k hk, hf k hk, h1 k hk, Option.bind_some]
          rw [if_neg c0, if_neg c1, if_neg c2, if_neg c3]
theorem two_facts (l : List Int) (hl : ∀ x ∈ l, (Lit.int .u8 x).wf = true) : ∃ n i s f n' i' s' g, ∀ k, 1 ≤ k → spec_DrawFactOver.f k l = some (n, i, s, f, n', i', s', g) := by
  obtain ⟨b, hR, ho⟩ := open_ok l hl
  obtain ⟨n, i, s, f, q, R, hq, h1⟩ := anyFact_ok b 0 hR (by omega)
  obtain ⟨n', i', s', g, q', R', hq', h2⟩ := anyFact_ok b q R (by omega)
  obtain ⟨v, a1, b1, -, h3⟩ := pick_ok b q' 4 R' (by omega)
  by_cases hv : v > 0
  · refine ⟨n, i, s, f, n, i', s', g, fun k hk => ?_⟩
    simp only [spec_DrawFactOver.f, ho, h1 k hk, h2 k hk, h3 k hk, Option.bind_some]
    rw [if_pos hv]
  · refine ⟨n, i, s, f, n', i', s', g, fun k hk => ?_⟩
    simp only [spec_DrawFactOver.f, ho, h1 k hk, h2 k hk, h3 k hk, Option.bind_some]
    rw [if_neg hv]
theorem over_not_both (i s : Int) (f : Bool) (i' s' : Int) (g : Bool) (h : overB i s f i' s' g = true) : overB i' s' g i s f = false := by
  unfold overB at *
  by_cases h1 : i = i'
  · rw [if_pos h1] at h; rw [if_pos h1.symm]
    by_cases h2 : s = s'
    · rw [if_pos h2] at h; rw [if_pos h2.symm]
      revert h; cases f <;> cases g <;> simp
    · rw [if_neg h2] at h; rw [if_neg (Ne.symm h2)]
      have := of_decide_eq_true h
      exact decide_eq_false (by omega)
  · rw [if_neg h1] at h; rw [if_neg (Ne.symm h1)]
    have := of_decide_eq_true h
    exact decide_eq_false (by omega)
theorem over_one (i s : Int) (f : Bool) (i' s' : Int) (g : Bool) (h : overB i s f i' s' g = false) (h' : overB i' s' g i s f = false) : i = i' ∧ s = s' ∧ f = g := by
  unfold overB at *
  by_cases h1 : i = i'
  · rw [if_pos h1] at h; rw [if_pos h1.symm] at h'
    by_cases h2 : s = s'
    · rw [if_pos h2] at h; rw [if_pos h2.symm] at h'
      refine ⟨h1, h2, ?_⟩
      revert h h'; cases f <;> cases g <;> simp
    · rw [if_neg h2] at h; rw [if_neg (Ne.symm h2)] at h'
      have := of_decide_eq_false h
      have := of_decide_eq_false h'
      omega
  · rw [if_neg h1] at h; rw [if_neg (Ne.symm h1)] at h'
    have := of_decide_eq_false h
    have := of_decide_eq_false h'
    omega
theorem over_self (i s : Int) (f : Bool) : overB i s f i s f = false := by
  unfold overB; rw [if_pos rfl, if_pos rfl]; cases f <;> rfl
theorem FnFactOver : laws_FnFactOver.Pure := by
  intro l0 hl1 hl2 hl3
  obtain ⟨n, i, s, f, n', i', s', g, hd⟩ := two_facts l0 hl3
  obtain ⟨k, hk⟩ : ∃ k : Nat, 19 ≤ k := ⟨19, by omega⟩
  refine ⟨k + 1, ?_⟩
  simp only [laws_FnFactOver.f]
  by_cases h0 : (l0.length : Int) > 1048576
  · rw [if_pos h0]
  · rw [if_neg h0, hd (k + 1) (by omega)]
    simp only [Option.bind_some, s_over, i_over _ _ _ _ _ _ _ _ (k + 1) (by omega), s_factOk, i_factOk, bne_self_eq_false, Bool.false_eq_true, if_false]
    have e0 : factOver n i s f n i s f = false := by unfold factOver; rw [over_self]; simp
    rw [e0]
    simp only [Bool.false_eq_true, if_false]
    by_cases ok1 : factOk n i s = true
    · by_cases ok2 : factOk n' i' s' = true
      · by_cases hn : n = n'
        · have ea : factOver n i s f n' i' s' g = overB i s f i' s' g := by unfold factOver; rw [ok1, ok2, decide_eq_true hn]; simp
          have eb : factOver n' i' s' g n i s f = overB i' s' g i s f := by unfold factOver; rw [ok1, ok2, decide_eq_true hn.symm]; simp
          rw [ea, eb]
          cases ha : overB i s f i' s' g
          · cases hb : overB i' s' g i s f
            · obtain ⟨r1, r2, r3⟩ := over_one _ _ _ _ _ _ ha hb
              subst r1; subst r2; subst r3; subst hn
              simp only [Bool.false_eq_true, if_false, laws_FnFactOver.j0, s_factOk, ok1, Option.bind_some, if_true]
              simp
            · have hne : ¬ (i = i' ∧ s = s' ∧ f = g) := by
                rintro ⟨rfl, rfl, rfl⟩
                rw [over_self] at hb; exact absurd hb (by decide)
              subst hn
              have hx : (!(n == n) || (!(i == i') || (!(s == s') || (!(f == g))))) = true := by
                cases hc : (!(n == n) || (!(i == i') || (!(s == s') || (!(f == g)))))
                · exact absurd (by simpa using hc) hne
                · rfl
              simp only [Bool.false_eq_true, if_false, laws_FnFactOver.j0, s_factOk, ok1, ok2, Option.bind_some, if_true, hx]
              rfl
          · have hb := over_not_both _ _ _ _ _ _ ha
            have hne : ¬ (i = i' ∧ s = s' ∧ f = g) := by
              rintro ⟨rfl, rfl, rfl⟩
              rw [over_self] at ha; exact absurd ha (by decide)
            subst hn
            have hx : (!(n == n) || (!(i == i') || (!(s == s') || (!(f == g))))) = true := by
              cases hc : (!(n == n) || (!(i == i') || (!(s == s') || (!(f == g)))))
              · exact absurd (by simpa using hc) hne
              · rfl
            rw [hb]
            simp only [Bool.false_eq_true, if_false, laws_FnFactOver.j0, s_factOk, ok1, ok2, Option.bind_some, if_true, hx]
            rfl
        · have ea : factOver n i s f n' i' s' g = false := by unfold factOver; rw [decide_eq_false hn]; simp
          have eb : factOver n' i' s' g n i s f = false := by unfold factOver; rw [decide_eq_false (Ne.symm hn)]; simp
          rw [ea, eb]
          simp only [Bool.false_eq_true, if_false, laws_FnFactOver.j0, s_factOk, ok1, ok2, Option.bind_some, if_true]
          rw [if_neg hn]; rfl
      · have ok2' : factOk n' i' s' = false := by simpa using ok2
        have ea : factOver n i s f n' i' s' g = false := by unfold factOver; rw [ok2']; simp
        have eb : factOver n' i' s' g n i s f = false := by unfold factOver; rw [ok2']; simp
        rw [ea, eb]
        simp only [Bool.false_eq_true, if_false, laws_FnFactOver.j0, s_factOk, ok1, ok2', Option.bind_some, if_true]
        rfl
    · have ok1' : factOk n i s = false := by simpa using ok1
      have ea : factOver n i s f n' i' s' g = false := by unfold factOver; rw [ok1']; simp
      have eb : factOver n' i' s' g n i s f = false := by unfold factOver; rw [ok1']; simp
      rw [ea, eb]
      simp only [Bool.false_eq_true, if_false, laws_FnFactOver.j0, s_factOk, ok1', Option.bind_some, if_true]
      rfl
end Go.Proofs.Ytnhalkdfkpebaaa.Pure
