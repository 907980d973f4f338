/- How new a table is grows with all that is new: put into a drawn table, a fact that says something new makes its number greater, and one that does not leaves it; and the program answers as the reference. Conditions: the bytes' number is within the row's reach. -/
import Derived.Test.YtjaihhgkcdnhnaaPFnTableVersionx
set_option linter.unusedVariables false
set_option linter.unusedSimpArgs false
namespace Go.Proofs.Ytjaihhgkcdnhnaa.Pure
open Go.RowKit Go.Proofs.Ytjaihhgkcdnhnaa.PFnTableVersion Go.Proofs.YtjaihhgkcdnhnaaW.PrintWords Go.Proofs.YtjaihhgkcdnhnaaW.PrintLast Go.Proofs.YtjaihhgkcdnhnaaW.PrintMore
theorem w64 {n : Int} (h : -9223372036854775808 ≤ n) (h' : n ≤ 9223372036854775807) : wrap64 n = n := by unfold wrap64; omega
theorem lt_ge (a b : Int) : a < b ∨ b ≤ a := by omega
/-! drawing -/
theorem i64_xor (a b : Int) (h1 : 0 ≤ a) (h2 : a < 9223372036854775808) (h3 : 0 ≤ b) (h4 : b < 9223372036854775808) : Go.bits .xor .i64 a b = ((a.toNat ^^^ b.toNat : Nat) : Int) := by
 obtain ⟨a, rfl⟩ := Int.eq_ofNat_of_zero_le h1
 obtain ⟨b, rfl⟩ := Int.eq_ofNat_of_zero_le h3
 have ha' : a % 2 ^ IntKind.i64.bits = a := Nat.mod_eq_of_lt (by show a < 2 ^ 64; omega)
 have hb' : b % 2 ^ IntKind.i64.bits = b := Nat.mod_eq_of_lt (by show b < 2 ^ 64; omega)
 have hx : a ^^^ b < 2 ^ 63 := Nat.xor_lt_two_pow (by omega) (by omega)
 simp only [Go.bits, BitVec.ofInt_natCast, BitVec.toNat_xor, BitVec.toNat_ofNat, ha', hb', Int.toNat_natCast]
 rw [IntKind.wrap_i64]
 omega
/-- The reader's bytes and its place. -/
def Rdr (b : List Int) (p : Int) : Prop := (∀ x ∈ b, 0 ≤ x ∧ x ≤ 255) ∧ b.length ≤ 2000 ∧ 0 ≤ p
theorem rd_byte {b : List Int} (h : ∀ x ∈ b, 0 ≤ x ∧ x ≤ 255) (i : Int) : 0 ≤ rd b i ∧ rd b i ≤ 255 := by
 unfold rd
 rw [List.getD_eq_getElem?_getD]
 rcases hq : b[i.toNat]? with _ | x
 ·simp
 ·exact h x (List.mem_of_getElem? hq)
theorem tmod_bd {a n : Int} (ha : 0 ≤ a) (hn : 0 < n) : 0 ≤ Int.tmod a n ∧ Int.tmod a n < n := ⟨Int.tmod_nonneg _ ha, Int.tmod_lt_of_pos _ hn⟩
theorem pick_ok (b : List Int) (p n : Int) (hR : Rdr b p) (hp : p ≤ 1000000) : ∃ v, 0 ≤ v ∧ (0 < n → v < n) ∧ (n < 1 → v = 0) ∧ ∀ k, 1 ≤ k → spec_l1Rd_pick.f k b p n = some (v, p + 1) := by
 obtain ⟨hb, hl, h0⟩ := hR
 have e1 : wrap64 (p + 1) = p + 1 := w64 (by omega) (by omega)
 by_cases hn : n < 1
 ·refine ⟨0, by omega, by omega, fun _ => rfl, fun k hk => ?_⟩
  obtain ⟨k, rfl⟩ : ∃ m, k = m + 1 := ⟨k - 1, by omega⟩
  simp only [spec_l1Rd_pick.f, spec_l1Rd_pick.j0]
  rw [if_pos hn, if_pos trivial, e1]
 ·have e2 : wrap64 (p + 1 - 1) = p := by rw [w64 (by omega) (by omega)]; omega
  by_cases hz : b.length = 0
  ·refine ⟨0, by omega, by omega, fun _ => rfl, fun k hk => ?_⟩
   obtain ⟨k, rfl⟩ : ∃ m, k = m + 1 := ⟨k - 1, by omega⟩
   simp only [spec_l1Rd_pick.f, spec_l1Rd_pick.j0]
   rw [if_neg hn, if_pos (beq_iff_eq.mpr (by omega)), e1]
  ·have hz' : ((b.length : Int) == 0) = false := beq_eq_false_iff_ne.mpr (by omega)
   by_cases hlt : p < (b.length : Int)
   ·obtain ⟨r1, r2⟩ := rd_byte hb p
    obtain ⟨m1, m2⟩ := tmod_bd r1 (show 0 < n by omega)
    refine ⟨Int.tmod (rd b p) n, m1, fun _ => m2, by omega, fun k hk => ?_⟩
    obtain ⟨k, rfl⟩ : ∃ m, k = m + 1 := ⟨k - 1, by omega⟩
    simp only [spec_l1Rd_pick.f, spec_l1Rd_pick.j0, hz', e1, e2]
    rw [if_neg hn, if_neg (by decide), if_pos hlt, if_pos h0, if_neg (by omega), w64 (n := rd b p) (by omega) (by omega)]
   ·have e3 : wrap64 (p * 7) = p * 7 := w64 (by omega) (by omega)
    have e4 : wrap64 (p * 7 + 3) = p * 7 + 3 := w64 (by omega) (by omega)
    have e5 : wrap64 (p * 29) = p * 29 := w64 (by omega) (by omega)
    obtain ⟨i, hi⟩ : ∃ i, i = Int.tmod p (b.length : Int) := ⟨_, rfl⟩
    obtain ⟨j, hj⟩ : ∃ j, j = Int.tmod (p * 7 + 3) (b.length : Int) := ⟨_, rfl⟩
    obtain ⟨i1, i2⟩ := tmod_bd h0 (show 0 < (b.length : Int) by omega)
    obtain ⟨j1, j2⟩ := tmod_bd (show 0 ≤ p * 7 + 3 by omega) (show 0 < (b.length : Int) by omega)
    rw [← hi] at i1 i2
    rw [← hj] at j1 j2
    obtain ⟨a1, a2⟩ := rd_byte hb i
    obtain ⟨c1, c2⟩ := rd_byte hb j
    obtain ⟨q, hq⟩ : ∃ q, q = Int.tdiv p (b.length : Int) := ⟨_, rfl⟩
    have q1 : 0 ≤ q ∧ q ≤ p := by
     rw [hq, Int.tdiv_eq_ediv_of_nonneg h0]
     exact ⟨Int.ediv_nonneg h0 (by omega), Int.ediv_le_self _ h0⟩
    have f1 : wrap64 (rd b i) = rd b i := w64 (by omega) (by omega)
    have f2 : wrap64 (rd b j) = rd b j := w64 (by omega) (by omega)
    have f3 : wrap64 (rd b i * 131) = rd b i * 131 := w64 (by omega) (by omega)
    have f4 : wrap64 (rd b j * 1117) = rd b j * 1117 := w64 (by omega) (by omega)
    have f5 : wrap64 q = q := w64 (by omega) (by omega)
    have f6 : wrap64 (q * 53) = q * 53 := w64 (by omega) (by omega)
    have f7 : wrap64 (rd b i * 131 + rd b j * 1117) = rd b i * 131 + rd b j * 1117 := w64 (by omega) (by omega)
    have f8 : wrap64 (rd b i * 131 + rd b j * 1117 + p * 29) = rd b i * 131 + rd b j * 1117 + p * 29 := w64 (by omega) (by omega)
    obtain ⟨x, hx⟩ : ∃ x, x = rd b i * 131 + rd b j * 1117 + p * 29 + q * 53 := ⟨_, rfl⟩
    have f9 : wrap64 (rd b i * 131 + rd b j * 1117 + p * 29 + q * 53) = x := by rw [hx]; exact w64 (by omega) (by omega)
    have x1 : 0 ≤ x := by omega
    have x2 : x ≤ 100000000 := by omega
    have f10 : wrap64 (Int.tdiv x 64) = x / 64 := by rw [Int.tdiv_eq_ediv_of_nonneg x1]; exact w64 (by omega) (by omega)
    have f11 := i64_xor x (x / 64) x1 (by omega) (by omega) (by omega)
    obtain ⟨m1, m2⟩ := tmod_bd (Int.natCast_nonneg (x.toNat ^^^ (x / 64).toNat)) (show 0 < n by omega)
    refine ⟨Int.tmod ((x.toNat ^^^ (x / 64).toNat : Nat) : Int) n, m1, fun _ => m2, by omega, fun k hk => ?_⟩
    obtain ⟨k, rfl⟩ : ∃ m, k = m + 1 := ⟨k - 1, by omega⟩
    simp only [spec_l1Rd_pick.f, spec_l1Rd_pick.j0, hz', e1, e2, e3, e4, e5, ← hi, ← hj, ← hq, f1, f2, f3, f4, f5, f6, f7, f8, f9, f10, f11]
    rw [if_neg hn, if_neg (by decide), if_neg hlt, if_neg (by omega), if_pos i1, if_pos i2, if_pos j1, if_pos j2, if_neg (by omega)]
theorem rdr_next {b : List Int} {p : Int} (h : Rdr b p) : Rdr b (p + 1) := ⟨h.1, h.2.1, by have := h.2.2; omega⟩
theorem open_ok (l : List Int) (hl : ∀ x ∈ l, (Lit.int .u8 x).wf = true) : ∃ b, Rdr b 0 ∧ spec_l1Open.f l = some (b, 0) := by
 have hw : ∀ x ∈ l, 0 ≤ x ∧ x ≤ 255 := by
  intro x hx
  have := hl x hx
  have h2 := (Bool.and_eq_true _ _).mp this
  have h3 := of_decide_eq_true h2.1
  have h4 := of_decide_eq_true h2.2
  exact ⟨h3, h4⟩
 simp only [spec_l1Open.f]
 by_cases h : (l.length : Int) > 2000
 ·rw [if_pos h, if_pos (by omega)]
  exact ⟨l.take 2000, ⟨fun x hx => hw x (List.mem_of_mem_take hx), by rw [List.length_take]; omega, by omega⟩, rfl⟩
 ·rw [if_neg h]
  exact ⟨l, ⟨hw, by omega, by omega⟩, rfl⟩
/-! ranges -/
theorem s_in (a l h : Int) : spec_l1In.f a l h = some (decide (l ≤ a) && decide (a ≤ h)) := by
 simp only [spec_l1In.f]
 by_cases h1 : a ≥ l
 ·rw [if_pos h1, decide_eq_true (show l ≤ a from h1)]; rfl
 ·rw [if_neg h1, decide_eq_false (show ¬ l ≤ a from h1)]; rfl
theorem i_in (a l h : Int) : impl_in.f a l h = some (decide (l ≤ a) && decide (a ≤ h)) := by
 simp only [impl_in.f]
 by_cases h1 : a ≥ l
 ·rw [if_pos h1, decide_eq_true (show l ≤ a from h1)]; rfl
 ·rw [if_neg h1, decide_eq_false (show ¬ l ≤ a from h1)]; rfl
theorem if_some {α : Type} (c : Bool) (x : α) (y z : Bool) : (if c = true then some y else some z : Option Bool) = some (if c = true then y else z) := by cases c <;> rfl
def inB (a l h : Int) : Bool := decide (l ≤ a) && decide (a ≤ h)
def factOk (n i s : Int) : Bool := inB n 0 7 && (inB i 0 999 && inB s 1 4)
theorem s_factOk (a b c : Int) (d : Bool) : spec_FactOk.f a b c d = some (factOk a b c) := by
 simp only [spec_FactOk.f, s_in, Option.bind_some, factOk, inB]
 cases (decide (0 ≤ a) && decide (a ≤ 7)) <;> cases (decide (0 ≤ b) && decide (b ≤ 999)) <;> simp
theorem i_factOk (a b c : Int) (d : Bool) : impl_FactOk.f a b c d = some (factOk a b c) := by
 simp only [impl_FactOk.f, impl_isNode.f, i_in, Option.bind_some, factOk, inB]
 cases (decide (0 ≤ a) && decide (a ≤ 7)) <;> cases (decide (0 ≤ b) && decide (b ≤ 999)) <;> simp
/-! tables: S30 a fact of the program's, S24 the statement's own -/
def fok (x : S30) : Bool := factOk x.f0 x.f1 x.f2
def tabB : Int → List S30 → Bool
 | _, [] => true
 | p, x :: xs => fok x && (decide (p < x.f0) && tabB x.f0 xs)
def prevOf (l : List S30) (n : Nat) : Int := if n = 0 then -1 else (rd_T30 l ((n - 1 : Nat) : Int)).f0
theorem fok_node {x : S30} (h : fok x = true) : 0 ≤ x.f0 ∧ x.f0 ≤ 7 ∧ 0 ≤ x.f1 ∧ x.f1 ≤ 999 ∧ 1 ≤ x.f2 ∧ x.f2 ≤ 4 := by
 simp only [fok, factOk, inB, Bool.and_eq_true, decide_eq_true_eq] at h
 omega
theorem rdF (l : List S30) (n : Nat) (h : n < l.length) : rd_T30 l (n : Int) = l[n] := by
 unfold rd_T30
 rw [Int.toNat_natCast, List.getD_eq_getElem?_getD, List.getElem?_eq_getElem h]; rfl
theorem tabB_step (l : List S30) (n : Nat) (h : n < l.length) : tabB (prevOf l n) (l.drop n) = (fok l[n] && (decide (prevOf l n < l[n].f0) && tabB (prevOf l (n + 1)) (l.drop (n + 1)))) := by
 rw [List.drop_eq_getElem_cons h]
 have e : prevOf l (n + 1) = l[n].f0 := by unfold prevOf; rw [if_neg (by omega), Nat.add_sub_cancel, rdF l n h]
 rw [e]; rfl
theorem s_tab_loop (l : List S30) (hl : l.length ≤ 1000000000000) (d : Nat) : ∀ (k n : Nat), n ≤ l.length → l.length - n = d → d < k → spec_TableOk.l0 k l (n : Int) = some (tabB (prevOf l n) (l.drop n)) := by
 induction d with
 | zero =>
  intro k n h0 h1 h2
  obtain ⟨k, rfl⟩ : ∃ m, k = m + 1 := ⟨k - 1, by omega⟩
  obtain rfl : n = l.length := by omega
  simp only [spec_TableOk.l0]; rw [if_neg (by omega), List.drop_length]; rfl
 | succ d ih =>
  intro k n h0 h1 h2
  obtain ⟨k, rfl⟩ : ∃ m, k = m + 1 := ⟨k - 1, by omega⟩
  have hn : n < l.length := by omega
  have ih' := ih k (n + 1) (by omega) (by omega) (by omega)
  have w1 : wrap64 ((n : Int) + 1) = ((n + 1 : Nat) : Int) := by rw [w64 (by omega) (by omega)]; omega
  rw [tabB_step l n hn]
  simp only [spec_TableOk.l0]
  rw [if_pos (by omega), if_pos (by omega), s_factOk, rdF l n hn, w1, ih']
  simp only [Option.bind_some]
  show (if fok l[n] = true then _ else _) = _
  cases hf : fok l[n]
  ·rfl
  ·obtain ⟨f0, -⟩ := fok_node hf
   rw [if_pos rfl, Bool.true_and]
   by_cases hz : n = 0
   ·subst hz
    rw [if_neg (by omega), decide_eq_true (by unfold prevOf; rw [if_pos rfl]; omega), Bool.true_and]
   ·have w2 : wrap64 ((n : Int) - 1) = ((n - 1 : Nat) : Int) := by rw [w64 (by omega) (by omega)]; omega
    have hp : prevOf l n = l[n - 1].f0 := by unfold prevOf; rw [if_neg hz, rdF l (n - 1) (by omega)]
    rw [if_pos (by omega), w2, if_pos (by omega), if_pos (by omega), rdF l (n - 1) (by omega), hp]
    by_cases hlt : l[n - 1].f0 < l[n].f0
    ·rw [if_neg (by omega), decide_eq_true hlt, Bool.true_and]
    ·rw [if_pos (by omega), decide_eq_false hlt, Bool.false_and]
theorem i_tab_loop (l : List S30) (hl : l.length ≤ 1000000000000) (d : Nat) : ∀ (k n : Nat), n ≤ l.length → l.length - n = d → d < k → impl_TableOk.l0 k l l (l.length : Int) (n : Int) = some (tabB (prevOf l n) (l.drop n)) := by
 induction d with
 | zero =>
  intro k n h0 h1 h2
  obtain ⟨k, rfl⟩ : ∃ m, k = m + 1 := ⟨k - 1, by omega⟩
  obtain rfl : n = l.length := by omega
  simp only [impl_TableOk.l0]; rw [if_neg (by omega), List.drop_length]; rfl
 | succ d ih =>
  intro k n h0 h1 h2
  obtain ⟨k, rfl⟩ : ∃ m, k = m + 1 := ⟨k - 1, by omega⟩
  have hn : n < l.length := by omega
  have ih' := ih k (n + 1) (by omega) (by omega) (by omega)
  have w1 : wrap64 ((n : Int) + 1) = ((n + 1 : Nat) : Int) := by rw [w64 (by omega) (by omega)]; omega
  rw [tabB_step l n hn]
  simp only [impl_TableOk.l0]
  rw [if_pos (by omega), if_pos (by omega), if_pos (by omega), i_factOk, rdF l n hn, w1, ih']
  simp only [Option.bind_some]
  show (if fok l[n] = true then _ else _) = _
  cases hf : fok l[n]
  ·rfl
  ·obtain ⟨f0, -⟩ := fok_node hf
   rw [if_pos rfl, Bool.true_and]
   by_cases hz : n = 0
   ·subst hz
    rw [if_neg (by omega), decide_eq_true (by unfold prevOf; rw [if_pos rfl]; omega), Bool.true_and]
   ·have w2 : wrap64 ((n : Int) - 1) = ((n - 1 : Nat) : Int) := by rw [w64 (by omega) (by omega)]; omega
    have hp : prevOf l n = l[n - 1].f0 := by unfold prevOf; rw [if_neg hz, rdF l (n - 1) (by omega)]
    rw [if_pos (by omega), w2, if_pos (by omega), if_pos (by omega), rdF l (n - 1) (by omega), hp]
    by_cases hlt : l[n - 1].f0 < l[n].f0
    ·rw [if_neg (by omega), decide_eq_true hlt, Bool.true_and]
    ·rw [if_pos (by omega), decide_eq_false hlt, Bool.false_and]
def tOk (l : List S30) : Bool := tabB (-1) l
theorem s_tab (l : List S30) (hl : l.length ≤ 1000000000000) (k : Nat) (hk : l.length < k) : spec_TableOk.f k l = some (tOk l) := s_tab_loop l hl l.length k 0 (by omega) (by omega) hk
theorem i_tab (l : List S30) (hl : l.length ≤ 1000000000000) (k : Nat) (hk : l.length < k) : impl_TableOk.f k l = some (tOk l) := i_tab_loop l hl l.length k 0 (by omega) (by omega) hk
/-! which fact overrides which -/
def cmpI (a b : Int) : Int := if a < b then -1 else if a > b then 1 else 0
theorem cmp_eq (a b : Int) : cmp_Compare_int.f a b = some (cmpI a b) := by
 simp only [cmp_Compare_int.f, cmp_isNaN_int.f, Option.bind_some, bne_self_eq_false, Bool.false_eq_true, if_false, cmpI]
 by_cases h : a < b
 ·rw [if_pos h, if_pos h]
 ·rw [if_neg h, if_neg h]
  by_cases h2 : a > b
  ·rw [if_pos h2, if_pos h2]
  ·rw [if_neg h2, if_neg h2]
theorem or4 (a b c d : Int) (k : Nat) (hk : 5 ≤ k) : cmp_Or_int.f k [a, b, c, d] = some (if a = 0 then (if b = 0 then (if c = 0 then d else c) else b) else a) := by
 obtain ⟨k, rfl⟩ : ∃ m, k = m + 5 := ⟨k - 5, by omega⟩
 have e0 : wrap64 (0 + 1) = 1 := w64 (by omega) (by omega)
 have e1 : wrap64 (1 + 1) = 2 := w64 (by omega) (by omega)
 have e2 : wrap64 (2 + 1) = 3 := w64 (by omega) (by omega)
 have e3 : wrap64 (3 + 1) = 4 := w64 (by omega) (by omega)
 have r0 : rd [a, b, c, d] 0 = a := rfl
 have r1 : rd [a, b, c, d] 1 = b := rfl
 have r2 : rd [a, b, c, d] 2 = c := rfl
 have r3 : rd [a, b, c, d] 3 = d := rfl
 have hl : (([a, b, c, d] : List Int).length : Int) = 4 := rfl
 simp only [cmp_Or_int.f, cmp_Or_int.l0, hl, r0, e0]
 rw [if_pos (by decide), if_pos (by decide), if_pos (by decide)]
 by_cases ha : a = 0
 ·rw [if_pos ha, if_pos ha]
  simp only [r1, e1]
  rw [if_pos (by decide), if_pos (by decide), if_pos (by decide)]
  by_cases hb : b = 0
  ·rw [if_pos hb, if_pos hb]
   simp only [r2, e2]
   rw [if_pos (by decide), if_pos (by decide), if_pos (by decide)]
   by_cases hc : c = 0
   ·rw [if_pos hc, if_pos hc]
    simp only [r3, e3]
    rw [if_pos (by decide), if_pos (by decide), if_pos (by decide)]
    by_cases hd : d = 0
    ·rw [if_pos hd, if_neg (by decide), hd]
    ·rw [if_neg hd]
   ·rw [if_neg hc, if_neg hc]
  ·rw [if_neg hb, if_neg hb]
 ·rw [if_neg ha, if_neg ha]
def gateI (f g : Bool) : Int := if (f && !g) = true then 1 else if (g && !f) = true then -1 else 0
def cmpF (n i s : Int) (f : Bool) (n' i' s' : Int) (g : Bool) : Int := if cmpI n n' = 0 then (if cmpI i i' = 0 then (if cmpI s s' = 0 then gateI f g else cmpI s s') else cmpI i i') else cmpI n n'
theorem compare_eq (n i s : Int) (f : Bool) (n' i' s' : Int) (g : Bool) (k : Nat) (hk : 8 ≤ k) : impl_Fact_compare.f k n i s f n' i' s' g = some (cmpF n i s f n' i' s' g) := by
 obtain ⟨k, rfl⟩ : ∃ m, k = m + 2 := ⟨k - 2, by omega⟩
 have hj : ∀ x, impl_Fact_compare.j1 (k + 1) x n i s f n' i' s' g = some (if cmpI n n' = 0 then (if cmpI i i' = 0 then (if cmpI s s' = 0 then x else cmpI s s') else cmpI i i') else cmpI n n') := by
  intro x
  simp only [impl_Fact_compare.j1, cmp_eq, Option.bind_some, or4 _ _ _ _ k (by omega)]
 simp only [impl_Fact_compare.f, impl_Fact_compare.j0, hj, cmpF]
 cases f <;> cases g <;> rfl
def overB (i s : Int) (f : Bool) (i' s' : Int) (g : Bool) : Bool := if i = i' then (if s = s' then f && !g else decide (s > s')) else decide (i > i')
theorem cmpI_zero (a b : Int) : cmpI a b = 0 ↔ a = b := by
 unfold cmpI
 split
 ·omega
 ·split <;> omega
theorem cmpI_pos (a b : Int) : (decide (cmpI a b > 0)) = decide (a > b) := by
 unfold cmpI
 split
 ·rw [decide_eq_false (by omega), decide_eq_false (by omega)]
 ·split
  ·rw [decide_eq_true (by omega), decide_eq_true (by omega)]
  ·rw [decide_eq_false (by omega), decide_eq_false (by omega)]
theorem cmpF_pos (n i s : Int) (f : Bool) (i' s' : Int) (g : Bool) : decide (cmpF n i s f n i' s' g > 0) = overB i s f i' s' g := by
 unfold cmpF overB
 rw [if_pos ((cmpI_zero _ _).mpr rfl)]
 by_cases h1 : i = i'
 ·rw [if_pos ((cmpI_zero _ _).mpr h1), if_pos h1]
  by_cases h2 : s = s'
  ·rw [if_pos ((cmpI_zero _ _).mpr h2), if_pos h2]
   cases f <;> cases g <;> rfl
  ·rw [if_neg (fun h => h2 ((cmpI_zero _ _).mp h)), if_neg h2, cmpI_pos]
 ·rw [if_neg (fun h => h1 ((cmpI_zero _ _).mp h)), if_neg h1, cmpI_pos]
def factOver (n i s : Int) (f : Bool) (n' i' s' : Int) (g : Bool) : Bool := factOk n i s && (factOk n' i' s' && (decide (n = n') && overB i s f i' s' g))
theorem s_l3Over (n i s : Int) (f : Bool) (n' i' s' : Int) (g : Bool) : spec_l3Over.f n i s f n' i' s' g = some (overB i s f i' s' g) := by
 simp only [spec_l3Over.f, overB]
 by_cases h1 : i = i'
 ·rw [if_pos h1, if_pos h1]
  by_cases h2 : s = s'
  ·rw [if_pos h2, if_pos h2]
   cases f <;> rfl
  ·rw [if_neg h2, if_neg h2]
 ·rw [if_neg h1, if_neg h1]
/-! places in tables -/
theorem tabB_pw : ∀ (p : Int) (l : List S30), tabB p l = true → (∀ x ∈ l, p < x.f0) ∧ l.Pairwise (fun a b => a.f0 < b.f0)
 | _, [], _ => ⟨fun x hx => (by cases hx), List.Pairwise.nil⟩
 | p, y :: ys, h => by
  simp only [tabB, Bool.and_eq_true, decide_eq_true_eq] at h
  obtain ⟨h1, h2, h3⟩ := h
  obtain ⟨i1, i2⟩ := tabB_pw _ _ h3
  refine ⟨fun x hx => ?_, List.Pairwise.cons (fun b hb => i1 b hb) i2⟩
  rcases List.mem_cons.1 hx with rfl | hx
  ·exact h2
  ·have := i1 x hx; omega
theorem tabB_fok : ∀ (p : Int) (l : List S30), tabB p l = true → ∀ x ∈ l, fok x = true
 | _, [], _ => fun x hx => (by cases hx)
 | p, y :: ys, h => by
  simp only [tabB, Bool.and_eq_true, decide_eq_true_eq] at h
  obtain ⟨h1, h2, h3⟩ := h
  intro x hx
  rcases List.mem_cons.1 hx with rfl | hx
  ·exact h1
  ·exact tabB_fok _ _ h3 x hx
theorem tabB_of : ∀ (p : Int) (l : List S30), (∀ x ∈ l, fok x = true) → (∀ x ∈ l, p < x.f0) → l.Pairwise (fun a b => a.f0 < b.f0) → tabB p l = true
 | _, [], _, _, _ => rfl
 | p, y :: ys, h1, h2, h3 => by
  simp only [tabB, Bool.and_eq_true, decide_eq_true_eq]
  obtain ⟨q1, q2⟩ := List.pairwise_cons.1 h3
  exact ⟨h1 y List.mem_cons_self, h2 y List.mem_cons_self, tabB_of _ _ (fun x hx => h1 x (List.mem_cons_of_mem _ hx)) (fun x hx => q1 x hx) q2⟩
theorem tOk_iff (l : List S30) : tOk l = true ↔ (∀ x ∈ l, fok x = true) ∧ l.Pairwise (fun a b => a.f0 < b.f0) :=
 ⟨fun h => ⟨tabB_fok _ _ h, (tabB_pw _ _ h).2⟩, fun h => tabB_of _ _ h.1 (fun x hx => by have := (fok_node (h.1 x hx)).1; omega) h.2⟩
theorem tab_lt (l : List S30) (h : tOk l = true) (i j : Nat) (hj : j < l.length) (hij : i < j) : (l[i]'(by omega)).f0 < l[j].f0 :=
 (List.pairwise_iff_getElem.1 (tabB_pw _ _ h).2) i j _ hj hij
def fnd (a : Int) : Int → List S30 → Int
 | _, [] => -1
 | n, x :: xs => if x.f0 = a then n else fnd a (n + 1) xs
theorem fnd_spec (a : Int) : ∀ (l : List S30) (n : Int), (fnd a n l = -1 ∧ ∀ x ∈ l, x.f0 ≠ a) ∨ (∃ i : Nat, ∃ h : i < l.length, fnd a n l = n + i ∧ (l[i]'h).f0 = a)
 | [], n => .inl ⟨rfl, fun x hx => (by cases hx)⟩
 | x :: xs, n => by
  by_cases e : x.f0 = a
  ·exact .inr ⟨0, by simp, by simp only [fnd, if_pos e]; omega, e⟩
  ·rcases fnd_spec a xs (n + 1) with ⟨h1, h2⟩ | ⟨i, hi, h1, h2⟩
   ·refine .inl ⟨by simp only [fnd, if_neg e]; exact h1, fun y hy => ?_⟩
    rcases List.mem_cons.1 hy with rfl | hy
    ·exact e
    ·exact h2 y hy
   ·exact .inr ⟨i + 1, by simpa using hi, by simp only [fnd, if_neg e, h1]; omega, h2⟩
theorem i_cmp (a b : Int) : cmp_Compare_int.f a b = some (cmpI a b) := by
 simp only [cmp_Compare_int.f, cmp_isNaN_int.f, Option.bind_some, bne_self_eq_false, Bool.false_eq_true, if_false, cmpI]
 split
 ·rfl
 ·split <;> rfl
theorem cmp_lt (a b : Int) : cmpI a b < 0 ↔ a < b := by
 unfold cmpI; split
 ·exact ⟨fun _ => ‹_›, fun _ => by omega⟩
 ·split <;> exact ⟨fun h => absurd h (by omega), fun h => absurd h ‹_›⟩
theorem cmp_zero (a b : Int) : (cmpI a b == 0) = decide (a = b) := by
 unfold cmpI; split
 ·rw [decide_eq_false (by omega)]; rfl
 ·split
  ·rw [decide_eq_false (by omega)]; rfl
  ·rw [decide_eq_true (by omega)]; rfl
theorem u64w {n : Int} (h : 0 ≤ n) (h' : n ≤ 9223372036854775807) : IntKind.u64.wrap n = n := by
 unfold IntKind.wrap; simp only [IntKind.bits, IntKind.signed]; first | omega | (simp; omega)
theorem half (i j : Nat) (hj : j ≤ 1000000000000) (hi : i ≤ 1000000000000) : wrap64 (IntKind.u64.wrap (wrap64 ((i : Int) + (j : Int))) / 2) = (((i + j) / 2 : Nat) : Int) := by
 rw [w64 (n := (i : Int) + j) (by omega) (by omega), u64w (by omega) (by omega), w64 (by omega) (by omega)]; omega
theorem i_bin (l : List S30) (a : Int) (hl : l.length ≤ 1000000000000) (hs : tOk l = true) (d : Nat) : ∀ (k i j : Nat), i ≤ j → j ≤ l.length → j - i ≤ d → d < k → (∀ t (h : t < l.length), t < i → l[t].f0 < a) → (∀ t (h : t < l.length), j ≤ t → a ≤ l[t].f0) →
  ∃ (m : Nat) (b : Bool), impl_Fact_int.l0 k l a (l.length : Int) (i : Int) (j : Int) = some ((m : Int), b) ∧ m ≤ l.length ∧ (∀ t (h : t < l.length), t < m → l[t].f0 < a) ∧ (∀ t (h : t < l.length), m ≤ t → a ≤ l[t].f0) ∧ (b = true → ∃ h : m < l.length, (l[m]'h).f0 = a) ∧ (b = false → ∀ t (h : t < l.length), l[t].f0 ≠ a) := by
 induction d with
 | zero =>
  intro k i j h1 h2 h3 h4 p q
  obtain ⟨k, rfl⟩ : ∃ m, k = m + 1 := ⟨k - 1, by omega⟩
  obtain rfl : i = j := by omega
  simp only [impl_Fact_int.l0]
  rw [if_neg (by omega)]
  by_cases hn : i < l.length
  ·rw [if_pos (by omega), if_pos (by omega), if_pos (by omega), rdF l i hn]
   simp only [impl_find_1.f, i_cmp, Option.bind_some, cmp_zero]
   refine ⟨i, _, rfl, h2, p, q, fun hb => ⟨hn, of_decide_eq_true hb⟩, fun hb t ht he => ?_⟩
   have hne := of_decide_eq_false hb
   by_cases c1 : t < i
   ·have := p t ht c1; omega
   ·by_cases c2 : t = i
    ·subst c2; exact hne he
    ·have h5 := tab_lt l hs i t ht (by omega)
     have h6 := q i hn (by omega)
     omega
  ·rw [if_neg (by omega)]
   refine ⟨i, false, rfl, h2, p, q, fun hb => (by cases hb), fun _ t ht he => ?_⟩
   have := p t ht (by omega); omega
 | succ d ih =>
  intro k i j h1 h2 h3 h4 p q
  obtain ⟨k, rfl⟩ : ∃ m, k = m + 1 := ⟨k - 1, by omega⟩
  by_cases hij : i < j
  ·generalize hm : (i + j) / 2 = m
   have hmi : i ≤ m := by omega
   have hmj : m < j := by omega
   have hml : m < l.length := by omega
   have hw := half i j (by omega) (by omega)
   rw [hm] at hw
   have w1 : wrap64 ((m : Int) + 1) = ((m + 1 : Nat) : Int) := by rw [w64 (by omega) (by omega)]; omega
   simp only [impl_Fact_int.l0, hw, w1]
   clear hw w1
   rw [if_pos (by omega), if_pos (by omega), if_pos (by omega), rdF l m hml]
   simp only [impl_find_1.f, i_cmp, Option.bind_some, cmp_lt]
   by_cases hc : l[m].f0 < a
   ·rw [if_pos hc]
    refine ih k (m + 1) j (by omega) h2 (by omega) (by omega) (fun t ht htm => ?_) q
    by_cases e : t = m
    ·subst e; exact hc
    ·have := tab_lt l hs t m hml (by omega); omega
   ·rw [if_neg hc]
    refine ih k i m (by omega) (by omega) (by omega) (by omega) p (fun t ht htm => ?_)
    by_cases e : t = m
    ·subst e; omega
    ·have := tab_lt l hs m t ht (by omega); omega
  ·obtain rfl : i = j := by omega
   exact ih (k + 1) i i (by omega) h2 (by omega) (by omega) p q
theorem i_find (l : List S30) (a : Int) (hl : l.length ≤ 1000000000000) (hs : tOk l = true) (k : Nat) (hk : l.length < k) : ∃ (m : Nat) (b : Bool), impl_find.f k l a = some ((m : Int), b) ∧ m ≤ l.length ∧ (∀ t (h : t < l.length), t < m → l[t].f0 < a) ∧ (∀ t (h : t < l.length), m ≤ t → a ≤ l[t].f0) ∧ (b = true → ∃ h : m < l.length, (l[m]'h).f0 = a) ∧ (b = false → ∀ t (h : t < l.length), l[t].f0 ≠ a) := by
 obtain ⟨m, b, h1, h2⟩ := i_bin l a hl hs l.length k 0 l.length (by omega) (by omega) (by omega) hk (fun t ht h => absurd h (by omega)) (fun t ht h => absurd ht (by omega))
 refine ⟨m, b, ?_, h2⟩
 simp only [impl_find.f, impl_Fact_int.f]
 rw [show ((0 : Int)) = ((0 : Nat) : Int) from rfl, h1]; rfl
def pos (a : Int) : List S30 → Nat
 | [] => 0
 | y :: ys => if y.f0 < a then pos a ys + 1 else 0
theorem pos_le (a : Int) : ∀ l : List S30, pos a l ≤ l.length
 | [] => Nat.le_refl _
 | y :: ys => by
  have := pos_le a ys
  simp only [pos, List.length_cons]
  split <;> omega
theorem pos_lt (a : Int) : ∀ (l : List S30), ∀ x ∈ l.take (pos a l), x.f0 < a
 | [], x, hx => by simp at hx
 | y :: ys, x, hx => by
  simp only [pos] at hx
  by_cases h : y.f0 < a
  ·rw [if_pos h, List.take_succ_cons] at hx
   rcases List.mem_cons.1 hx with rfl | hx
   ·exact h
   ·exact pos_lt a ys x hx
  ·rw [if_neg h] at hx
   simp at hx
theorem pos_at (a : Int) : ∀ (l : List S30) (h : pos a l < l.length), ¬ (l[pos a l]).f0 < a
 | [], h => by simp at h
 | y :: ys, h => by
  by_cases c : y.f0 < a
  ·have hp : pos a (y :: ys) = pos a ys + 1 := by simp only [pos, if_pos c]
   have h2 : pos a ys < ys.length := by rw [hp] at h; simpa using h
   have := pos_at a ys h2
   simp only [hp, List.getElem_cons_succ]
   exact this
  ·have hp : pos a (y :: ys) = 0 := by simp only [pos, if_neg c]
   simp only [hp, List.getElem_cons_zero]
   exact c
theorem pos_eq (a : Int) : ∀ (l : List S30) (m : Nat), m ≤ l.length → (∀ t (h : t < l.length), t < m → l[t].f0 < a) → (∀ t (h : t < l.length), m ≤ t → a ≤ l[t].f0) → m = pos a l
 | [], m, h, _, _ => by simp at h; exact h
 | y :: ys, m, h, p, q => by
  by_cases c : y.f0 < a
  ·simp only [pos, if_pos c]
   obtain ⟨m, rfl⟩ : ∃ j, m = j + 1 := by
    rcases m with _ | m
    ·have := q 0 (by simp) (Nat.le_refl _)
     simp only [List.getElem_cons_zero] at this
     omega
    ·exact ⟨m, rfl⟩
   rw [pos_eq a ys m (by simpa using h) (fun t ht htm => p (t + 1) (Nat.succ_lt_succ ht) (by omega)) (fun t ht htm => q (t + 1) (Nat.succ_lt_succ ht) (by omega))]
  ·simp only [pos, if_neg c]
   rcases m with _ | m
   ·rfl
   ·have := p 0 (by simp) (by omega)
    simp only [List.getElem_cons_zero] at this
    omega
theorem s_find_loop (l : List S30) (a : Int) (hl : l.length ≤ 1000000000000) (d : Nat) : ∀ (k n : Nat), n ≤ l.length → l.length - n = d → d < k → spec_l3Find.l0 k l a (n : Int) = some (fnd a (n : Int) (l.drop n)) := by
 induction d with
 | zero =>
  intro k n h0 h1 h2
  obtain ⟨k, rfl⟩ : ∃ m, k = m + 1 := ⟨k - 1, by omega⟩
  obtain rfl : n = l.length := by omega
  simp only [spec_l3Find.l0]; rw [if_neg (by omega), List.drop_length]; rfl
 | succ d ih =>
  intro k n h0 h1 h2
  obtain ⟨k, rfl⟩ : ∃ m, k = m + 1 := ⟨k - 1, by omega⟩
  have hn : n < l.length := by omega
  have ih' := ih k (n + 1) (by omega) (by omega) (by omega)
  have w1 : wrap64 ((n : Int) + 1) = ((n + 1 : Nat) : Int) := by rw [w64 (by omega) (by omega)]; omega
  rw [List.drop_eq_getElem_cons hn]
  simp only [spec_l3Find.l0, fnd]
  rw [if_pos (by omega), if_pos (by omega), rdF l n hn, w1, ih']
  by_cases e : l[n].f0 = a
  ·rw [if_pos e, if_pos e]
  ·rw [if_neg e, if_neg e]; rfl
theorem s_find (l : List S30) (a : Int) (hl : l.length ≤ 1000000000000) (k : Nat) (hk : l.length < k) : spec_l3Find.f k l a = some (fnd a 0 l) := s_find_loop l a hl l.length k 0 (by omega) (by omega) hk
/-! a fact put into a table -/
def insL (l : List S30) (x : S30) : List S30 := l.take (pos x.f0 l) ++ [x] ++ l.drop (pos x.f0 l)
def putL (l : List S30) (x : S30) : List S30 × Bool :=
 if fnd x.f0 0 l < 0 then (insL l x, true)
 else if overB x.f1 x.f2 x.f3 (rd_T30 l (fnd x.f0 0 l)).f1 (rd_T30 l (fnd x.f0 0 l)).f2 (rd_T30 l (fnd x.f0 0 l)).f3 = true then (l.set (fnd x.f0 0 l).toNat x, true) else (l, false)
theorem insL_length (l : List S30) (x : S30) : (insL l x).length = l.length + 1 := by
 have := pos_le x.f0 l
 simp only [insL, List.length_append, List.length_take, List.length_drop, List.length_singleton]
 omega
theorem putL_length (l : List S30) (x : S30) : (putL l x).1.length ≤ l.length + 1 := by
 unfold putL
 split
 ·rw [insL_length]; exact Nat.le_refl _
 ·split
  ·simp only [List.length_set]; omega
  ·exact Nat.le_succ _
theorem fnd_lt (l : List S30) (a : Int) : fnd a 0 l < 0 ∨ ∃ i : Nat, ∃ h : i < l.length, fnd a 0 l = i ∧ (l[i]'h).f0 = a := by
 rcases fnd_spec a l 0 with ⟨h, -⟩ | ⟨i, hi, h, h2⟩
 ·exact .inl (by omega)
 ·exact .inr ⟨i, hi, by omega, h2⟩
theorem s_ins_loop (l : List S30) (x : S30) (hl : l.length ≤ 1000000000000) (d : Nat) : ∀ (k n : Nat), n ≤ pos x.f0 l → pos x.f0 l - n = d → d < k → spec_l3Put.l0 k l (n : Int) x.f0 x.f1 x.f2 x.f3 = some (insL l x, true) := by
 have hp := pos_le x.f0 l
 induction d with
 | zero =>
  intro k n h0 h1 h2
  obtain ⟨k, rfl⟩ : ∃ m, k = m + 1 := ⟨k - 1, by omega⟩
  obtain rfl : n = pos x.f0 l := by omega
  simp only [spec_l3Put.l0]
  by_cases h : pos x.f0 l < l.length
  ·have h3 := pos_at x.f0 l h
   rw [if_pos (by omega), if_pos (by omega), rdF l _ h, if_neg h3]
   simp only [Option.bind_some, Int.toNat_natCast, List.nil_append]
   rw [if_pos (by omega), if_pos (by simp only [List.length_nil, List.length_take]; omega), if_pos (by simp only [List.length_take, List.length_singleton]; omega), if_pos (by simp only [List.length_append, List.length_take, List.length_singleton, List.length_drop]; omega)]
   rfl
  ·rw [if_neg (by omega)]
   simp only [Option.bind_some, Int.toNat_natCast, List.nil_append]
   rw [if_pos (by omega), if_pos (by omega), if_pos (by simp only [List.length_nil, List.length_take]; omega), if_pos (by simp only [List.length_take, List.length_singleton]; omega), if_pos (by simp only [List.length_append, List.length_take, List.length_singleton, List.length_drop]; omega)]
   rfl
 | succ d ih =>
  intro k n h0 h1 h2
  obtain ⟨k, rfl⟩ : ∃ m, k = m + 1 := ⟨k - 1, by omega⟩
  have hn : n < l.length := by omega
  have ih' := ih k (n + 1) (by omega) (by omega) (by omega)
  have w1 : wrap64 ((n : Int) + 1) = ((n + 1 : Nat) : Int) := by rw [w64 (by omega) (by omega)]; omega
  have h3 : l[n].f0 < x.f0 := pos_lt x.f0 l _ (by
   rw [List.mem_iff_getElem]
   exact ⟨n, by rw [List.length_take]; omega, by rw [List.getElem_take]⟩)
  simp only [spec_l3Put.l0]
  rw [if_pos (by omega), if_pos (by omega), rdF l n hn, if_pos h3, w1]
  exact ih'
theorem s_put (l : List S30) (x : S30) (hl : l.length ≤ 1000000000000) (k : Nat) (hk : l.length < k) : spec_l3Put.f k l x.f0 x.f1 x.f2 x.f3 = some (putL l x) := by
 simp only [spec_l3Put.f, s_find l x.f0 hl k hk, Option.bind_some, putL]
 rcases fnd_lt l x.f0 with h | ⟨i, hi, h, h2⟩
 ·rw [if_neg (by omega), if_pos h]
  exact s_ins_loop l x hl (pos x.f0 l) k 0 (by omega) (by omega) (by have := pos_le x.f0 l; omega)
 ·rw [h, if_pos (by omega), if_pos (by omega), if_pos (by omega), if_neg (show ¬ ((i : Int) < 0) by omega), s_l3Over, Option.bind_some, List.length_nil, Nat.zero_add, List.nil_append]
  cases overB x.f1 x.f2 x.f3 (rd_T30 l (i : Int)).f1 (rd_T30 l (i : Int)).f2 (rd_T30 l (i : Int)).f3
  ·rfl
  ·rw [if_pos rfl, if_pos rfl, if_pos (by omega), if_pos (by omega)]
theorem s_ins_loopS (l : List S30) (x : S30) (hl : l.length ≤ 1000000000000) (d : Nat) : ∀ (k n : Nat), n ≤ pos x.f0 l → pos x.f0 l - n = d → d < k → spec_l3PutS.l0 k l (n : Int) x.f0 x.f1 x.f2 x.f3 = some (insL l x, true) := by
 have hp := pos_le x.f0 l
 induction d with
 | zero =>
  intro k n h0 h1 h2
  obtain ⟨k, rfl⟩ : ∃ m, k = m + 1 := ⟨k - 1, by omega⟩
  obtain rfl : n = pos x.f0 l := by omega
  simp only [spec_l3PutS.l0]
  by_cases h : pos x.f0 l < l.length
  ·have h3 := pos_at x.f0 l h
   rw [if_pos (by omega), if_pos (by omega), rdF l _ h, if_neg h3]
   simp only [Option.bind_some, Int.toNat_natCast, List.nil_append]
   rw [if_pos (by omega), if_pos (by simp only [List.length_nil, List.length_take]; omega), if_pos (by simp only [List.length_take, List.length_singleton]; omega), if_pos (by simp only [List.length_append, List.length_take, List.length_singleton, List.length_drop]; omega)]
   rfl
  ·rw [if_neg (by omega)]
   simp only [Option.bind_some, Int.toNat_natCast, List.nil_append]
   rw [if_pos (by omega), if_pos (by omega), if_pos (by simp only [List.length_nil, List.length_take]; omega), if_pos (by simp only [List.length_take, List.length_singleton]; omega), if_pos (by simp only [List.length_append, List.length_take, List.length_singleton, List.length_drop]; omega)]
   rfl
 | succ d ih =>
  intro k n h0 h1 h2
  obtain ⟨k, rfl⟩ : ∃ m, k = m + 1 := ⟨k - 1, by omega⟩
  have hn : n < l.length := by omega
  have ih' := ih k (n + 1) (by omega) (by omega) (by omega)
  have w1 : wrap64 ((n : Int) + 1) = ((n + 1 : Nat) : Int) := by rw [w64 (by omega) (by omega)]; omega
  have h3 : l[n].f0 < x.f0 := pos_lt x.f0 l _ (by
   rw [List.mem_iff_getElem]
   exact ⟨n, by rw [List.length_take]; omega, by rw [List.getElem_take]⟩)
  simp only [spec_l3PutS.l0]
  rw [if_pos (by omega), if_pos (by omega), rdF l n hn, if_pos h3, w1]
  exact ih'
theorem s_putS (l : List S30) (x : S30) (hl : l.length ≤ 1000000000000) (k : Nat) (hk : l.length < k) : spec_l3PutS.f k l x.f0 x.f1 x.f2 x.f3 = some (putL l x) := by
 simp only [spec_l3PutS.f, s_find l x.f0 hl k hk, Option.bind_some, putL]
 rcases fnd_lt l x.f0 with h | ⟨i, hi, h, h2⟩
 ·rw [if_neg (by omega), if_pos h]
  exact s_ins_loopS l x hl (pos x.f0 l) k 0 (by omega) (by omega) (by have := pos_le x.f0 l; omega)
 ·rw [h, if_pos (by omega), if_pos (by omega), if_pos (by omega), if_neg (show ¬ ((i : Int) < 0) by omega), s_l3Over, Option.bind_some, List.length_nil, Nat.zero_add, List.nil_append]
  cases overB x.f1 x.f2 x.f3 (rd_T30 l (i : Int)).f1 (rd_T30 l (i : Int)).f2 (rd_T30 l (i : Int)).f3
  ·rfl
  ·rw [if_pos rfl, if_pos rfl, if_pos (by omega), if_pos (by omega)]
theorem i_put (l : List S30) (x : S30) (hl : l.length ≤ 1000000000000) (hs : tOk l = true) (k : Nat) (hk : l.length < k) (hk8 : 8 ≤ k) : impl_put.f k l x.f0 x.f1 x.f2 x.f3 = some (putL l x) := by
 obtain ⟨m, b, hf, hm, hp, hq, hb1, hb0⟩ := i_find l x.f0 hl hs k hk
 simp only [impl_put.f, impl_Fact_43.f, Option.bind_some, List.length_nil, Nat.zero_add, List.nil_append]
 rw [if_pos (by omega), Option.bind_some, hf]
 simp only [Option.bind_some, putL]
 cases b
 ·have hno := hb0 rfl
  have hneg : fnd x.f0 0 l < 0 := by
   rcases fnd_lt l x.f0 with h | ⟨i, hi, h, h2⟩
   ·exact h
   ·exact absurd h2 (hno i hi)
  have hpe := pos_eq x.f0 l m hm hp hq
  rw [if_neg (by decide), if_pos hneg]
  simp only [impl_Fact_63.f, Option.bind_some, List.nil_append, Int.toNat_natCast]
  rw [if_pos (by omega), if_pos (by omega), if_neg (by simp), if_pos (by simp only [List.length_nil, List.length_take]; omega), if_pos (by simp only [List.length_take, List.length_singleton]; omega), if_pos (by simp only [List.length_append, List.length_take, List.length_singleton, List.length_drop]; omega)]
  by_cases hz : (l.length : Int) = 0
  ·obtain rfl : l = [] := List.eq_nil_of_length_eq_zero (by omega)
   rw [if_pos (by rfl)]
   simp [insL, pos]
  ·rw [if_neg hz, hpe]
   rfl
 ·obtain ⟨hml, he⟩ := hb1 rfl
  have hfe : fnd x.f0 0 l = m := by
   rcases fnd_spec x.f0 l 0 with ⟨-, h4⟩ | ⟨i, hi, h3, h4⟩
   ·exact absurd he (h4 _ (List.getElem_mem hml))
   ·obtain rfl : i = m := by
     rcases Nat.lt_trichotomy i m with c | c | c
     ·have := tab_lt l hs i m hml c; omega
     ·exact c
     ·have := tab_lt l hs m i hi c; omega
    omega
  rw [if_pos rfl, if_pos (by omega), if_pos (by omega), hfe, if_neg (by omega), rdF l m hml, he, compare_eq _ _ _ _ _ _ _ _ k hk8, Option.bind_some]
  have hc := cmpF_pos x.f0 x.f1 x.f2 x.f3 l[m].f1 l[m].f2 l[m].f3
  cases ho : overB x.f1 x.f2 x.f3 l[m].f1 l[m].f2 l[m].f3
  ·rw [ho] at hc
   rw [if_neg (of_decide_eq_false hc), if_neg (by decide)]
  ·rw [ho] at hc
   rw [if_pos (of_decide_eq_true hc), if_pos rfl]
theorem insL_ok (l : List S30) (x : S30) (h : tOk l = true) (hx : fok x = true) (hn : ∀ y ∈ l, y.f0 ≠ x.f0) : tOk (insL l x) = true := by
 obtain ⟨h1, h2⟩ := (tOk_iff l).1 h
 have hd : ∀ y ∈ l.drop (pos x.f0 l), x.f0 < y.f0 := by
  intro y hy
  obtain ⟨j, hj, rfl⟩ := List.mem_iff_getElem.1 hy
  rw [List.length_drop] at hj
  rw [List.getElem_drop]
  have hp : pos x.f0 l < l.length := by omega
  have h3 := pos_at x.f0 l hp
  have h4 := hn _ (List.getElem_mem hp)
  rcases Nat.eq_zero_or_pos j with rfl | hj0
  ·simp only [Nat.add_zero]; omega
  ·have := tab_lt l h (pos x.f0 l) (pos x.f0 l + j) (by omega) (by omega)
   omega
 have ht := pos_lt x.f0 l
 refine (tOk_iff _).2 ⟨fun y hy => ?_, ?_⟩
 ·simp only [insL, List.mem_append, List.mem_singleton] at hy
  rcases hy with (hy | rfl) | hy
  ·exact h1 y (List.mem_of_mem_take hy)
  ·exact hx
  ·exact h1 y (List.mem_of_mem_drop hy)
 ·unfold insL
  rw [List.append_assoc]
  refine List.pairwise_append.2 ⟨h2.sublist (List.take_sublist _ _), List.pairwise_cons.2 ⟨fun y hy => hd y hy, h2.sublist (List.drop_sublist _ _)⟩, fun y hy z hz => ?_⟩
  have e1 := ht y hy
  rcases List.mem_cons.1 hz with rfl | hz
  ·exact e1
  ·have := hd z hz; omega
theorem setL_ok (l : List S30) (x : S30) (i : Nat) (hi : i < l.length) (h : tOk l = true) (hx : fok x = true) (he : l[i].f0 = x.f0) : tOk (l.set i x) = true := by
 obtain ⟨h1, h2⟩ := (tOk_iff l).1 h
 refine (tOk_iff _).2 ⟨fun y hy => ?_, ?_⟩
 ·rcases List.mem_or_eq_of_mem_set hy with hy | rfl
  ·exact h1 y hy
  ·exact hx
 ·have e : (l.set i x).map (·.f0) = l.map (·.f0) := by
   rw [List.map_set, ← he]
   refine List.ext_getElem (by rw [List.length_set]) (fun j p q => ?_)
   rw [List.getElem_set]
   split
   ·rename_i c; subst c; rw [List.getElem_map]
   ·rfl
  have p : (l.map (·.f0)).Pairwise (· < ·) := List.pairwise_map.2 h2
  rw [← e] at p
  exact List.pairwise_map.1 p
theorem putL_ok (l : List S30) (x : S30) (h : tOk l = true) (hx : fok x = true) : tOk (putL l x).1 = true := by
 unfold putL
 rcases fnd_spec x.f0 l 0 with ⟨h1, h2⟩ | ⟨i, hi, h1, h2⟩
 ·rw [if_pos (by omega)]
  exact insL_ok l x h hx h2
 ·rw [if_neg (by omega), h1, Int.zero_add, Int.toNat_natCast]
  cases overB x.f1 x.f2 x.f3 (rd_T30 l (i : Int)).f1 (rd_T30 l (i : Int)).f2 (rd_T30 l (i : Int)).f3
  ·exact h
  ·exact setL_ok l x i hi h hx h2
def tput (l : List S30) (x : S30) : List S30 × Bool := if tOk l = true then (if fok x = true then putL l x else ([], false)) else ([], false)
theorem tput_length (l : List S30) (x : S30) : (tput l x).1.length ≤ l.length + 1 := by
 unfold tput
 split
 ·split
  ·exact putL_length l x
  ·simp
 ·simp
theorem s_tput (l : List S30) (x : S30) (hl : l.length ≤ 100000000) (k : Nat) (hk : l.length < k) : spec_TablePut.f k l x.f0 x.f1 x.f2 x.f3 = some (tput l x) := by
 simp only [spec_TablePut.f, s_tab l (by omega) k hk, s_factOk, s_putS l x (by omega) k hk, Option.bind_some, List.length_nil, Nat.zero_add, List.nil_append, tput]
 by_cases h : tOk l = true
 ·rw [if_pos h, if_pos h]
  show (if fok x = true then _ else _) = _
  by_cases h2 : fok x = true
  ·rw [if_pos h2, if_pos h2, if_pos (by have := putL_length l x; omega)]
  ·rw [if_neg h2, if_neg h2]
 ·rw [if_neg h, if_neg h]
theorem i_tput (l : List S30) (x : S30) (hl : l.length ≤ 100000000) (k : Nat) (hk : l.length < k) (hk8 : 8 ≤ k) : impl_TablePut.f k l x.f0 x.f1 x.f2 x.f3 = some (tput l x) := by
 simp only [impl_TablePut.f, i_tab l (by omega) k hk, i_factOk, Option.bind_some, tput]
 by_cases h : tOk l = true
 ·rw [if_pos h, if_pos h]
  show (if fok x = true then _ else _) = _
  by_cases h2 : fok x = true
  ·rw [if_pos h2, if_pos h2, i_put l x (by omega) h k hk hk8, Option.bind_some]
  ·rw [if_neg h2, if_neg h2]
 ·rw [if_neg h, if_neg h]
def ver (x : S30) : Int := 1 + x.f1 * 16 + x.f2 * 2 + (if x.f3 = true then 1 else 0)
def verS (l : List S30) : Int := (l.map ver).sum
theorem tabB_all : ∀ (p : Int) (l : List S30), tabB p l = true → ∀ x ∈ l, fok x = true
 | _, [], _ => fun x hx => by cases hx
 | p, y :: ys, h => fun x hx => by
  simp only [tabB, Bool.and_eq_true] at h
  rcases List.mem_cons.1 hx with rfl | hx
  ·exact h.1
  ·exact tabB_all _ _ h.2.2 x hx
theorem ver_bd {x : S30} (h : fok x = true) : 1 ≤ ver x ∧ ver x ≤ 16000 := by
 obtain ⟨_, _, _, _, _, _⟩ := fok_node h
 unfold ver; split <;> omega
theorem s_ver_loop (l : List S30) (hl : l.length ≤ 1048577) (hok : ∀ x ∈ l, fok x = true) (d : Nat) : ∀ (k n : Nat) (acc : Int), n ≤ l.length → l.length - n = d → d < k → 0 ≤ acc → acc ≤ 16000 * n → spec_TableVersion.l0 k l acc (n : Int) = some (acc + verS (l.drop n)) := by
 induction d with
 | zero =>
  intro k n acc h0 h1 h2 h3 h4
  obtain ⟨k, rfl⟩ : ∃ m, k = m + 1 := ⟨k - 1, by omega⟩
  obtain rfl : n = l.length := by omega
  simp only [spec_TableVersion.l0]; rw [if_neg (by omega), List.drop_length]; simp [verS]
 | succ d ih =>
  intro k n acc h0 h1 h2 h3 h4
  obtain ⟨k, rfl⟩ : ∃ m, k = m + 1 := ⟨k - 1, by omega⟩
  have hn : n < l.length := by omega
  have hf := hok l[n] (List.getElem_mem hn)
  obtain ⟨b0, b1⟩ := ver_bd hf
  obtain ⟨c1, c2, c3, c4, c5, c6⟩ := fok_node hf
  have ih' := ih k (n + 1) (acc + ver l[n]) (by omega) (by omega) (by omega) (by omega) (by omega)
  have w1 : wrap64 ((n : Int) + 1) = ((n + 1 : Nat) : Int) := by rw [w64 (by omega) (by omega)]; omega
  rw [List.drop_eq_getElem_cons hn]
  simp only [verS, List.map_cons, List.sum_cons] at ih' ⊢
  rw [← Int.add_assoc, ← ih']
  simp only [spec_TableVersion.l0, w1]
  clear w1 ih'
  rw [if_pos (by omega), if_pos (by omega), rdF l n hn]
  rw [w64 (n := acc + 1) (by omega) (by omega), w64 (n := l[n].f1 * 16) (by omega) (by omega), w64 (n := l[n].f2 * 2) (by omega) (by omega), w64 (n := acc + 1 + l[n].f1 * 16) (by omega) (by omega), w64 (n := acc + 1 + l[n].f1 * 16 + l[n].f2 * 2) (by omega) (by omega), w64 (n := acc + 1 + l[n].f1 * 16 + l[n].f2 * 2 + 1) (by omega) (by omega)]
  unfold ver
  cases hg : l[n].f3
  ·rw [if_neg (by decide), if_neg (by decide)]; congr 1; omega
  ·rw [if_pos rfl, if_pos rfl]; congr 1; omega
theorem i_ver_loop (l : List S30) (hl : l.length ≤ 1048577) (hok : ∀ x ∈ l, fok x = true) (d : Nat) : ∀ (k n : Nat) (acc : Int), n ≤ l.length → l.length - n = d → d < k → 0 ≤ acc → acc ≤ 16000 * n → impl_TableVersion.l0 k acc l (l.length : Int) (n : Int) = some (acc + verS (l.drop n)) := by
 induction d with
 | zero =>
  intro k n acc h0 h1 h2 h3 h4
  obtain ⟨k, rfl⟩ : ∃ m, k = m + 1 := ⟨k - 1, by omega⟩
  obtain rfl : n = l.length := by omega
  simp only [impl_TableVersion.l0]; rw [if_neg (by omega), List.drop_length]; simp [verS]
 | succ d ih =>
  intro k n acc h0 h1 h2 h3 h4
  obtain ⟨k, rfl⟩ : ∃ m, k = m + 1 := ⟨k - 1, by omega⟩
  have hn : n < l.length := by omega
  have hf := hok l[n] (List.getElem_mem hn)
  obtain ⟨b0, b1⟩ := ver_bd hf
  obtain ⟨c1, c2, c3, c4, c5, c6⟩ := fok_node hf
  have ih' := ih k (n + 1) (acc + ver l[n]) (by omega) (by omega) (by omega) (by omega) (by omega)
  have w1 : wrap64 ((n : Int) + 1) = ((n + 1 : Nat) : Int) := by rw [w64 (by omega) (by omega)]; omega
  rw [List.drop_eq_getElem_cons hn]
  simp only [verS, List.map_cons, List.sum_cons] at ih' ⊢
  rw [← Int.add_assoc, ← ih']
  simp only [impl_TableVersion.l0, w1]
  clear w1 ih'
  rw [if_pos (by omega), if_pos (by omega), if_pos (by omega), rdF l n hn]
  rw [w64 (n := l[n].f1 * 16) (by omega) (by omega), w64 (n := l[n].f2 * 2) (by omega) (by omega), w64 (n := 1 + l[n].f1 * 16) (by omega) (by omega), w64 (n := 1 + l[n].f1 * 16 + l[n].f2 * 2) (by omega) (by omega), w64 (n := acc + (1 + l[n].f1 * 16 + l[n].f2 * 2)) (by omega) (by omega), w64 (n := acc + (1 + l[n].f1 * 16 + l[n].f2 * 2) + 1) (by omega) (by omega)]
  unfold ver
  cases hg : l[n].f3
  ·rw [if_neg (by decide), if_neg (by decide)]; congr 1; omega
  ·rw [if_pos rfl, if_pos rfl]; congr 1; omega
def verOf (l : List S30) : Int := if tOk l = true then verS l else 0
theorem s_ver (l : List S30) (hl : l.length ≤ 1048577) (k : Nat) (hk : l.length < k) : spec_TableVersion.f k l = some (verOf l) := by
 simp only [spec_TableVersion.f, s_tab l (by omega) k hk, Option.bind_some, verOf]
 cases ht : tOk l
 ·rfl
 ·rw [if_pos rfl, if_pos rfl]
  have := s_ver_loop l hl (tabB_all _ _ ht) l.length k 0 0 (by omega) (by omega) hk (by omega) (by omega)
  simpa using this
theorem i_ver (l : List S30) (hl : l.length ≤ 1048577) (k : Nat) (hk : l.length < k) : impl_TableVersion.f k l = some (verOf l) := by
 simp only [impl_TableVersion.f, i_tab l (by omega) k hk, Option.bind_some, verOf]
 cases ht : tOk l
 ·rfl
 ·rw [if_pos rfl, if_pos rfl]
  have := i_ver_loop l hl (tabB_all _ _ ht) l.length k 0 0 (by omega) (by omega) hk (by omega) (by omega)
  simpa using this
theorem fact_ok (b : List Int) (p site : Int) (hR : Rdr b p) (hp : p ≤ 100000) : ∃ n i s g q, Rdr b q ∧ q ≤ p + 5 ∧ ∀ k, 1 ≤ k → spec_l61Fact.f k b p site = some (n, i, s, g, q) := by
 obtain ⟨v1, a1, b1, -, h1⟩ := pick_ok b p 4 hR (by omega)
 have R1 := rdr_next hR
 obtain ⟨v2, a2, b2, -, h2⟩ := pick_ok b (p + 1) 3 R1 (by omega)
 have R2 := rdr_next R1
 obtain ⟨v3, a3, b3, -, h3⟩ := pick_ok b (p + 1 + 1) 12 R2 (by omega)
 have R3 := rdr_next R2
 obtain ⟨v4, a4, b4, -, h4⟩ := pick_ok b (p + 1 + 1 + 1) 3 R3 (by omega)
 have R4 := rdr_next R3
 obtain ⟨v5, a5, b5, -, h5⟩ := pick_ok b (p + 1 + 1 + 1 + 1) 4 R4 (by omega)
 have b4 := b4 (by omega)
 refine ⟨wrap64 (wrap64 (site * 4) + v1), rd [v2, v3, 999] v4, wrap64 (1 + v5), decide (Int.tmod (wrap64 (wrap64 (site * 4) + v1)) 4 < 3), p + 1 + 1 + 1 + 1 + 1, rdr_next R4, by omega, fun k hk => ?_⟩
 simp only [spec_l61Fact.f, h1 k hk, h2 k hk, h3 k hk, h4 k hk, h5 k hk, Option.bind_some, spec_l51Gate.f]
 rw [if_pos a4, if_pos (by simp; omega)]
theorem anyFact_ok (b : List Int) (p : Int) (hR : Rdr b p) (hp : p ≤ 90000) : ∃ n i s g q, Rdr b q ∧ q ≤ p + 8 ∧ ∀ k, 1 ≤ k → spec_l61AnyFact.f k b p = some (n, i, s, g, q) := by
 obtain ⟨v0, a0, b0, -, h0⟩ := pick_ok b p 2 hR (by omega)
 obtain ⟨n, i, s, g, q, R0, hq, hf⟩ := fact_ok b (p + 1) v0 (rdr_next hR) (by omega)
 obtain ⟨v1, a1, b1, -, h1⟩ := pick_ok b q 12 R0 (by omega)
 have R1 := rdr_next R0
 obtain ⟨v2, a2, b2, -, h2⟩ := pick_ok b (q + 1) 2 R1 (by omega)
 have R2 := rdr_next R1
 have b2 := b2 (by omega)
 by_cases c0 : v1 = 0
 ·refine ⟨rd [-1, 8] v2, i, s, g, q + 1 + 1, R2, by omega, fun k hk => ?_⟩
  simp only [spec_l61AnyFact.f, h0 k hk, hf k hk, h1 k hk, h2 k hk, Option.bind_some]
  rw [if_pos c0, if_pos a2, if_pos (by simp; omega)]
 ·by_cases c1 : v1 = 1
  ·refine ⟨n, rd [-1, 1000] v2, s, g, q + 1 + 1, R2, by omega, fun k hk => ?_⟩
   simp only [spec_l61AnyFact.f, h0 k hk, hf k hk, h1 k hk, h2 k hk, Option.bind_some]
   rw [if_neg c0, if_pos c1, if_pos a2, if_pos (by simp; omega)]
  ·by_cases c2 : v1 = 2
   ·refine ⟨n, i, rd [0, 5] v2, g, q + 1 + 1, R2, by omega, fun k hk => ?_⟩
    simp only [spec_l61AnyFact.f, h0 k hk, hf k hk, h1 k hk, h2 k hk, Option.bind_some]
    rw [if_neg c0, if_neg c1, if_pos c2, if_pos a2, if_pos (by simp; omega)]
   ·by_cases c3 : v1 = 3
    ·refine ⟨n, i, s, !g, q + 1, R1, by omega, fun k hk => ?_⟩
     simp only [spec_l61AnyFact.f, h0 k hk, hf k hk, h1 k hk, Option.bind_some]
     rw [if_neg c0, if_neg c1, if_neg c2, if_pos c3]
    ·refine ⟨n, i, s, g, q + 1, R1, by omega, fun k hk => ?_⟩
     simp only [spec_l61AnyFact.f, h0 k hk, hf k hk, h1 k hk, Option.bind_some]
     rw [if_neg c0, if_neg c1, if_neg c2, if_neg c3]
/-! tables drawn -/
theorem table_loop (b : List Int) (d : Nat) : ∀ (t : List S30) (p : Int), t.length + d ≤ 100 → Rdr b p → p ≤ 80000 - 7 * d → ∃ t' q, t'.length ≤ t.length + d ∧ Rdr b q ∧ q ≤ p + 7 * d ∧ ∀ k, t.length + 2 * d < k → spec_l61Table.l0 k (-1) t (d : Int) b p = some (t', q) := by
 induction d with
 | zero =>
  intro t p h1 hR hp
  refine ⟨t, p, by omega, hR, by omega, fun k hk => ?_⟩
  obtain ⟨k, rfl⟩ : ∃ m, k = m + 1 := ⟨k - 1, by omega⟩
  simp only [spec_l61Table.l0]; rw [if_neg (by omega)]
 | succ d ih =>
  intro t p h1 hR hp
  obtain ⟨v, a1, b1, -, hv⟩ := pick_ok b p 2 hR (by omega)
  obtain ⟨n, i, s, g, q, Rq, hq, hf⟩ := fact_ok b (p + 1) v (rdr_next hR) (by omega)
  have hl := putL_length t ⟨n, i, s, g⟩
  obtain ⟨t', q', g1, g2, g3, g4⟩ := ih (putL t ⟨n, i, s, g⟩).1 q (by omega) Rq (by omega)
  refine ⟨t', q', by omega, g2, by omega, fun k hk => ?_⟩
  obtain ⟨k, rfl⟩ : ∃ m, k = m + 1 := ⟨k - 1, by omega⟩
  have hp := s_put t ⟨n, i, s, g⟩ (by omega) k (by omega)
  dsimp only at hp
  have w1 : wrap64 (((d + 1 : Nat) : Int) - 1) = (d : Int) := by rw [w64 (by omega) (by omega)]; omega
  simp only [spec_l61Table.l0, hv k (by omega), hf k (by omega), hp, Option.bind_some, w1]
  rw [if_pos (by omega), if_pos (by decide)]
  exact g4 k (by omega)
theorem table_ok (b : List Int) (p : Int) (hR : Rdr b p) (hp : p ≤ 70000) : ∃ t q, t.length ≤ 5 ∧ Rdr b q ∧ q ≤ p + 40 ∧ ∀ k, 11 ≤ k → spec_l61Table.f k b p (-1) = some (t, q) := by
 obtain ⟨v, a1, b1, -, hv⟩ := pick_ok b p 6 hR (by omega)
 have b1 := b1 (by omega)
 obtain ⟨t, q, g1, g2, g3, g4⟩ := table_loop b v.toNat [] (p + 1) (by simp; omega) (rdr_next hR) (by omega)
 refine ⟨t, q, by simp at g1; omega, g2, by omega, fun k hk => ?_⟩
 simp only [spec_l61Table.f, hv k (by omega), Option.bind_some]
 have := g4 k (by simp; omega)
 rwa [Int.toNat_of_nonneg a1] at this
theorem anyTable_ok (b : List Int) (p : Int) (hR : Rdr b p) (hp : p ≤ 60000) : ∃ t q, t.length ≤ 6 ∧ Rdr b q ∧ q ≤ p + 60 ∧ ∀ k, 12 ≤ k → spec_l61AnyTable.f k b p = some (t, q) := by
 obtain ⟨t, q, h1, Rq, hq, hf⟩ := table_ok b p hR (by omega)
 by_cases h0 : (t.length : Int) > 0
 ·obtain ⟨v, a1, b1, -, hv⟩ := pick_ok b q 12 Rq (by omega)
  have R1 := rdr_next Rq
  cases hc : (v == 0)
  ·refine ⟨t, q + 1, by omega, R1, by omega, fun k hk => ?_⟩
   obtain ⟨k, rfl⟩ : ∃ m, k = m + 1 := ⟨k - 1, by omega⟩
   simp only [spec_l61AnyTable.f, hf (k + 1) (by omega), hv (k + 1) (by omega), Option.bind_some, hc, spec_l61AnyTable.j0]
   rw [if_pos h0, if_neg (by decide)]
  ·obtain ⟨i, a2, b2, -, hi⟩ := pick_ok b (q + 1) (t.length : Int) R1 (by omega)
   have b2 := b2 h0
   have R2 := rdr_next R1
   obtain ⟨c, a3, b3, -, hcc⟩ := pick_ok b (q + 1 + 1) 3 R2 (by omega)
   have R3 := rdr_next R2
   obtain ⟨n, j, s, g, q', Rq', hq', hff⟩ := anyFact_ok b (q + 1 + 1 + 1) R3 (by omega)
   by_cases e0 : c = 0
   ·refine ⟨t.set i.toNat ⟨n, j, s, g⟩, q', by simp only [List.length_set]; omega, Rq', by omega, fun k hk => ?_⟩
    obtain ⟨k, rfl⟩ : ∃ m, k = m + 1 := ⟨k - 1, by omega⟩
    simp only [spec_l61AnyTable.f, hf (k + 1) (by omega), hv (k + 1) (by omega), Option.bind_some, hc, spec_l61AnyTable.j0, hi k (by omega), hcc k (by omega), hff k (by omega)]
    rw [if_pos h0, if_pos trivial, if_pos e0, if_pos a2, if_pos b2]
   ·by_cases e1 : c = 1
    ·refine ⟨t ++ [⟨(rd_T30 t i).f0, (rd_T30 t i).f1, (rd_T30 t i).f2, (rd_T30 t i).f3⟩], q + 1 + 1 + 1, by simp only [List.length_append, List.length_singleton]; omega, R3, by omega, fun k hk => ?_⟩
     obtain ⟨k, rfl⟩ : ∃ m, k = m + 1 := ⟨k - 1, by omega⟩
     simp only [spec_l61AnyTable.f, hf (k + 1) (by omega), hv (k + 1) (by omega), Option.bind_some, hc, spec_l61AnyTable.j0, hi k (by omega), hcc k (by omega)]
     rw [if_pos h0, if_pos trivial, if_neg e0, if_pos e1, if_pos a2, if_pos b2, if_pos (by omega)]
    ·refine ⟨t.set i.toNat ⟨(rd_T30 t i).f0, (rd_T30 t i).f1, 0, (rd_T30 t i).f3⟩, q + 1 + 1 + 1, by simp only [List.length_set]; omega, R3, by omega, fun k hk => ?_⟩
     obtain ⟨k, rfl⟩ : ∃ m, k = m + 1 := ⟨k - 1, by omega⟩
     simp only [spec_l61AnyTable.f, hf (k + 1) (by omega), hv (k + 1) (by omega), Option.bind_some, hc, spec_l61AnyTable.j0, hi k (by omega), hcc k (by omega)]
     rw [if_pos h0, if_pos trivial, if_neg e0, if_neg e1, if_pos a2, if_pos b2]
 ·refine ⟨t, q, by omega, Rq, by omega, fun k hk => ?_⟩
  obtain ⟨k, rfl⟩ : ∃ m, k = m + 1 := ⟨k - 1, by omega⟩
  simp only [spec_l61AnyTable.f, hf (k + 1) (by omega), Option.bind_some, spec_l61AnyTable.j0]
  rw [if_neg h0, if_neg (by decide)]
theorem lhF_loop (l : List S30) (hl : l.length ≤ 1000000000000) (d : Nat) : ∀ (k n : Nat), n ≤ l.length → l.length - n = d → d < k → laws_lhFacts.l0 k l l (n : Int) = some true := by
 induction d with
 | zero =>
  intro k n h0 h1 h2
  obtain ⟨k, rfl⟩ : ∃ m, k = m + 1 := ⟨k - 1, by omega⟩
  simp only [laws_lhFacts.l0]; rw [if_neg (by omega)]
 | succ d ih =>
  intro k n h0 h1 h2
  obtain ⟨k, rfl⟩ : ∃ m, k = m + 1 := ⟨k - 1, by omega⟩
  have ih' := ih k (n + 1) (by omega) (by omega) (by omega)
  have w1 : wrap64 ((n : Int) + 1) = ((n + 1 : Nat) : Int) := by rw [w64 (by omega) (by omega)]; omega
  simp only [laws_lhFacts.l0, beq_self_eq_true, Bool.not_true, Bool.or_self, Bool.false_eq_true, if_false, w1]
  rw [if_pos (by omega), if_pos (by omega), if_pos (by omega)]
  exact ih'
theorem lhF (l : List S30) (hl : l.length ≤ 1000000000000) (k : Nat) (hk : l.length < k) : laws_lhFacts.f k l l = some true := by
 simp only [laws_lhFacts.f, if_true]
 exact lhF_loop l hl l.length k 0 (by omega) (by omega) hk
theorem verS_app (a b : List S30) : verS (a ++ b) = verS a + verS b := by
 unfold verS; rw [List.map_append, List.sum_append]
theorem verS_ins (l : List S30) (x : S30) : verS (insL l x) = verS l + ver x := by
 unfold insL
 rw [verS_app, verS_app]
 have e : verS l = verS (l.take (pos x.f0 l)) + verS (l.drop (pos x.f0 l)) := by rw [← verS_app, List.take_append_drop]
 have e2 : verS [x] = ver x := by simp [verS]
 rw [e, e2]; omega
theorem verS_set (l : List S30) (x : S30) (i : Nat) (h : i < l.length) : verS (l.set i x) = verS l - ver l[i] + ver x := by
 have e1 : l = l.take i ++ (l[i] :: l.drop (i + 1)) := by rw [← List.drop_eq_getElem_cons h, List.take_append_drop]
 have e2 : l.set i x = l.take i ++ (x :: l.drop (i + 1)) := List.set_eq_take_append_cons_drop.trans (if_pos h)
 have e3 : ∀ y : S30, verS (y :: l.drop (i + 1)) = ver y + verS (l.drop (i + 1)) := fun y => by simp [verS]
 have e4 : verS l = verS (l.take i) + (ver l[i] + verS (l.drop (i + 1))) := by rw [← e3, ← verS_app, ← e1]
 rw [e2, verS_app, e3, e4]; omega
theorem ver_over (x y : S30) (hx : fok x = true) (hy : fok y = true) (h : overB x.f1 x.f2 x.f3 y.f1 y.f2 y.f3 = true) : ver y < ver x := by
 obtain ⟨_, _, _, _, _, _⟩ := fok_node hx
 obtain ⟨_, _, _, _, _, _⟩ := fok_node hy
 unfold overB at h
 unfold ver
 by_cases h1 : x.f1 = y.f1
 ·rw [if_pos h1] at h
  by_cases h2 : x.f2 = y.f2
  ·rw [if_pos h2] at h
   rw [h1, h2]
   cases h3 : x.f3 <;> cases h4 : y.f3 <;> rw [h3, h4] at h <;> simp_all
   omega
  ·rw [if_neg h2] at h
   have := of_decide_eq_true h
   split <;> split <;> omega
 ·rw [if_neg h1] at h
  have := of_decide_eq_true h
  split <;> split <;> omega
theorem putL_ver (l : List S30) (x : S30) (hl : tOk l = true) (hx : fok x = true) : ((putL l x).2 = true ∧ verS l < verS (putL l x).1) ∨ ((putL l x).2 = false ∧ (putL l x).1 = l) := by
 unfold putL
 rcases fnd_lt l x.f0 with h | ⟨i, hi, h, h2⟩
 ·rw [if_pos h]
  refine .inl ⟨rfl, ?_⟩
  rw [verS_ins]
  have := (ver_bd hx).1
  omega
 ·rw [if_neg (by omega), h, Int.toNat_natCast, rdF l i hi]
  cases ho : overB x.f1 x.f2 x.f3 l[i].f1 l[i].f2 l[i].f3
  ·exact .inr ⟨rfl, rfl⟩
  ·refine .inl ⟨rfl, ?_⟩
   rw [if_pos rfl, verS_set l x i hi]
   have := ver_over x l[i] hx (((tOk_iff l).1 hl).1 _ (List.getElem_mem hi)) ho
   omega
theorem FnTableVersion : laws_FnTableVersion.Pure := by
 intro l0 hl1 hl2 hl3
 obtain ⟨b, hR, ho⟩ := open_ok l0 hl3
 obtain ⟨t, q, ht, Rq, hq, hft⟩ := anyTable_ok b 0 hR (by omega)
 obtain ⟨n, i, s, g, q', Rq', hq', hff⟩ := anyFact_ok b q Rq (by omega)
 generalize hx : (⟨n, i, s, g⟩ : S30) = x
 obtain rfl : n = x.f0 := by rw [← hx]
 obtain rfl : i = x.f1 := by rw [← hx]
 obtain rfl : s = x.f2 := by rw [← hx]
 obtain rfl : g = x.f3 := by rw [← hx]
 refine ⟨19 + 1, ?_⟩
 have hT := tput_length t x
 simp only [laws_FnTableVersion.f]
 by_cases h0 : (l0.length : Int) > 1048576
 ·rw [if_pos h0]
 ·rw [if_neg h0]
  simp only [spec_DrawTablePut.f, ho, hft (19 + 1) (by omega), hff (19 + 1) (by omega), Option.bind_some, s_tput t x (by omega) (19 + 1) (by omega), i_tput t x (by omega) (19 + 1) (by omega) (by omega), i_ver t (by omega) (19 + 1) (by omega), i_ver (tput t x).1 (by omega) (19 + 1) (by omega), s_ver t (by omega) (19 + 1) (by omega), s_ver (tput t x).1 (by omega) (19 + 1) (by omega), lhF (tput t x).1 (by omega) (19 + 1) (by omega), bne_self_eq_false, Bool.false_eq_true, if_false, if_true]
  simp only [laws_FnTableVersion.j0, Bool.false_eq_true, if_false, s_tab t (by omega) 19 (by omega), s_factOk, Option.bind_some]
  by_cases h1 : tOk t = true
  ·rw [if_pos h1]
   show (if fok x = true then _ else _) = _
   by_cases h2 : fok x = true
   ·rw [if_pos h2]
    have e : tput t x = putL t x := by unfold tput; rw [if_pos h1, if_pos h2]
    rw [e]
    rcases putL_ver t x h1 h2 with ⟨e1, e2⟩ | ⟨e1, e2⟩
    ·have hb1 : verOf t = verS t := by unfold verOf; rw [if_pos h1]
     have hb2 : verOf (putL t x).1 = verS (putL t x).1 := by unfold verOf; rw [if_pos (putL_ok t x h1 h2)]
     rw [e1, if_pos rfl, hb1, hb2, if_pos (by omega)]
    ·rw [e1, e2, if_neg (by decide), beq_self_eq_true]
   ·rw [if_neg h2]
  ·rw [if_neg h1]
end Go.Proofs.Ytjaihhgkcdnhnaa.Pure
