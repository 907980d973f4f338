/- Of each node only the newest is told on. Conditions: the bytes' number is within the row's reach. -/
import Derived.Test.YtjaihhgkcdnhnaaPFnCastNewx
set_option linter.unusedVariables false
set_option linter.unusedSimpArgs false
namespace Go.Proofs.Ytjaihhgkcdnhnaa.Pure
open List Option Go.RowKit Go.Proofs.Ytjaihhgkcdnhnaa.PFnCastNew Go.Proofs.YtjaihhgkcdnhnaaW.PrintWords Go.Proofs.YtjaihhgkcdnhnaaW.PrintLast Go.Proofs.YtjaihhgkcdnhnaaW.PrintMore
theorem xk {k a : Nat} (h : a ≤ k) : ∃ m, k = m + a := ⟨k - a, by omega⟩
theorem w64 {n : Int} (h : -9223372036854775808 ≤ n) (h' : n ≤ 9223372036854775807) : wrap64 n = n := by unfold wrap64; omega
theorem wq (n : Nat) (h : n ≤ 1000000000000) : wrap64 ((n : Int) + 1) = ((n + 1 : Nat) : Int) := by rw [w64 (by omega) (by omega)]; omega
theorem i64_xor (a b : Int) (h1 : 0 ≤ a) (h2 : a < 9223372036854775808) (h3 : 0 ≤ b) (h4 : b < 9223372036854775808) : Go.bits .xor .i64 a b = ((a.toNat ^^^ b.toNat : Nat) : Int) := by
 obtain ⟨a, rfl⟩ := Int.eq_ofNat_of_zero_le h1
 obtain ⟨b, rfl⟩ := Int.eq_ofNat_of_zero_le h3
 have ha' : a % 2 ^ IntKind.i64.bits = a := Nat.mod_eq_of_lt (by show a < 2 ^ 64; omega)
 have hb' : b % 2 ^ IntKind.i64.bits = b := Nat.mod_eq_of_lt (by show b < 2 ^ 64; omega)
 have hx : a ^^^ b < 2 ^ 63 := Nat.xor_lt_two_pow (by omega) (by omega)
 simp only [Go.bits, BitVec.ofInt_natCast, BitVec.toNat_xor, BitVec.toNat_ofNat, ha', hb', Int.toNat_natCast]
 rw [IntKind.wrap_i64]
 omega
/-- The reader's bytes and its place. -/
def Rdr (b : List Int) (p : Int) : Prop := (∀ x ∈ b, 0 ≤ x ∧ x ≤ 255) ∧ b.length ≤ 2000 ∧ 0 ≤ p
theorem rd_byte {b : List Int} (h : ∀ x ∈ b, 0 ≤ x ∧ x ≤ 255) (i : Int) : 0 ≤ rd b i ∧ rd b i ≤ 255 := by
 unfold rd
 rw [List.getD_eq_getElem?_getD]
 rcases hq : b[i.toNat]? with _ | x
 ·simp
 ·exact h x (List.mem_of_getElem? hq)
theorem tmod_bd {a n : Int} (ha : 0 ≤ a) (hn : 0 < n) : 0 ≤ Int.tmod a n ∧ Int.tmod a n < n := ⟨Int.tmod_nonneg _ ha, Int.tmod_lt_of_pos _ hn⟩
theorem pick_ok (b : List Int) (p n : Int) (hR : Rdr b p) (hp : p ≤ 1000000) : ∃ v, 0 ≤ v ∧ (0 < n → v < n) ∧ (n < 1 → v = 0) ∧ ∀ k, 1 ≤ k → spec_l1Rd_pick.f k b p n = some (v, p + 1) := by
 obtain ⟨hb, hl, h0⟩ := hR
 have e1 : wrap64 (p + 1) = p + 1 := w64 (by omega) (by omega)
 by_cases hn : n < 1
 ·refine ⟨0, by omega, by omega, fun _ => rfl, fun k hk => ?_⟩
  obtain ⟨k, rfl⟩ := xk (show 1 ≤ k by omega)
  simp only [spec_l1Rd_pick.f, spec_l1Rd_pick.j0]
  rw [if_pos hn, if_pos trivial, e1]
 ·have e2 : wrap64 (p + 1 - 1) = p := by rw [w64 (by omega) (by omega)]; omega
  by_cases hz : b.length = 0
  ·refine ⟨0, by omega, by omega, fun _ => rfl, fun k hk => ?_⟩
   obtain ⟨k, rfl⟩ := xk (show 1 ≤ k by omega)
   simp only [spec_l1Rd_pick.f, spec_l1Rd_pick.j0]
   rw [if_neg hn, if_pos (beq_iff_eq.mpr (by omega)), e1]
  ·have hz' : ((b.length : Int) == 0) = false := beq_eq_false_iff_ne.mpr (by omega)
   by_cases hlt : p < (b.length : Int)
   ·obtain ⟨r1, r2⟩ := rd_byte hb p
    obtain ⟨m1, m2⟩ := tmod_bd r1 (show 0 < n by omega)
    refine ⟨Int.tmod (rd b p) n, m1, fun _ => m2, by omega, fun k hk => ?_⟩
    obtain ⟨k, rfl⟩ := xk (show 1 ≤ k by omega)
    simp only [spec_l1Rd_pick.f, spec_l1Rd_pick.j0, hz', e1, e2]
    rw [if_neg hn, if_neg (by decide), if_pos hlt, if_pos h0, if_neg (by omega), w64 (n := rd b p) (by omega) (by omega)]
   ·have e3 : wrap64 (p * 7) = p * 7 := w64 (by omega) (by omega)
    have e4 : wrap64 (p * 7 + 3) = p * 7 + 3 := w64 (by omega) (by omega)
    have e5 : wrap64 (p * 29) = p * 29 := w64 (by omega) (by omega)
    obtain ⟨i, hi⟩ : ∃ i, i = Int.tmod p (b.length : Int) := ⟨_, rfl⟩
    obtain ⟨j, hj⟩ : ∃ j, j = Int.tmod (p * 7 + 3) (b.length : Int) := ⟨_, rfl⟩
    obtain ⟨i1, i2⟩ := tmod_bd h0 (show 0 < (b.length : Int) by omega)
    obtain ⟨j1, j2⟩ := tmod_bd (show 0 ≤ p * 7 + 3 by omega) (show 0 < (b.length : Int) by omega)
    rw [← hi] at i1 i2
    rw [← hj] at j1 j2
    obtain ⟨a1, a2⟩ := rd_byte hb i
    obtain ⟨c1, c2⟩ := rd_byte hb j
    obtain ⟨q, hq⟩ : ∃ q, q = Int.tdiv p (b.length : Int) := ⟨_, rfl⟩
    have q1 : 0 ≤ q ∧ q ≤ p := by
     rw [hq, Int.tdiv_eq_ediv_of_nonneg h0]
     exact ⟨Int.ediv_nonneg h0 (by omega), Int.ediv_le_self _ h0⟩
    have f1 : wrap64 (rd b i) = rd b i := w64 (by omega) (by omega)
    have f2 : wrap64 (rd b j) = rd b j := w64 (by omega) (by omega)
    have f3 : wrap64 (rd b i * 131) = rd b i * 131 := w64 (by omega) (by omega)
    have f4 : wrap64 (rd b j * 1117) = rd b j * 1117 := w64 (by omega) (by omega)
    have f5 : wrap64 q = q := w64 (by omega) (by omega)
    have f6 : wrap64 (q * 53) = q * 53 := w64 (by omega) (by omega)
    have f7 : wrap64 (rd b i * 131 + rd b j * 1117) = rd b i * 131 + rd b j * 1117 := w64 (by omega) (by omega)
    have f8 : wrap64 (rd b i * 131 + rd b j * 1117 + p * 29) = rd b i * 131 + rd b j * 1117 + p * 29 := w64 (by omega) (by omega)
    obtain ⟨x, hx⟩ : ∃ x, x = rd b i * 131 + rd b j * 1117 + p * 29 + q * 53 := ⟨_, rfl⟩
    have f9 : wrap64 (rd b i * 131 + rd b j * 1117 + p * 29 + q * 53) = x := by rw [hx]; exact w64 (by omega) (by omega)
    have x1 : 0 ≤ x := by omega
    have x2 : x ≤ 100000000 := by omega
    have f10 : wrap64 (Int.tdiv x 64) = x / 64 := by rw [Int.tdiv_eq_ediv_of_nonneg x1]; exact w64 (by omega) (by omega)
    have f11 := i64_xor x (x / 64) x1 (by omega) (by omega) (by omega)
    obtain ⟨m1, m2⟩ := tmod_bd (Int.natCast_nonneg (x.toNat ^^^ (x / 64).toNat)) (show 0 < n by omega)
    refine ⟨Int.tmod ((x.toNat ^^^ (x / 64).toNat : Nat) : Int) n, m1, fun _ => m2, by omega, fun k hk => ?_⟩
    obtain ⟨k, rfl⟩ := xk (show 1 ≤ k by omega)
    simp only [spec_l1Rd_pick.f, spec_l1Rd_pick.j0, hz', e1, e2, e3, e4, e5, ← hi, ← hj, ← hq, f1, f2, f3, f4, f5, f6, f7, f8, f9, f10, f11]
    rw [if_neg hn, if_neg (by decide), if_neg hlt, if_neg (by omega), if_pos i1, if_pos i2, if_pos j1, if_pos j2, if_neg (by omega)]
theorem rdr_next {b : List Int} {p : Int} (h : Rdr b p) : Rdr b (p + 1) := ⟨h.1, h.2.1, by have := h.2.2; omega⟩
theorem open_ok (l : List Int) (hl : ∀ x ∈ l, (Lit.int .u8 x).wf = true) : ∃ b, Rdr b 0 ∧ spec_l1Open.f l = some (b, 0) := by
 have hw : ∀ x ∈ l, 0 ≤ x ∧ x ≤ 255 := by
  intro x hx
  have := hl x hx
  have h2 := (Bool.and_eq_true _ _).mp this
  have h3 := of_decide_eq_true h2.1
  have h4 := of_decide_eq_true h2.2
  exact ⟨h3, h4⟩
 simp only [spec_l1Open.f]
 by_cases h : (l.length : Int) > 2000
 ·rw [if_pos h, if_pos (by omega)]
  exact ⟨l.take 2000, ⟨fun x hx => hw x (List.mem_of_mem_take hx), by rw [length_take]; omega, by omega⟩, rfl⟩
 ·rw [if_neg h]
  exact ⟨l, ⟨hw, by omega, by omega⟩, rfl⟩
theorem s_in (a l h : Int) : spec_l1In.f a l h = some (decide (l ≤ a) && decide (a ≤ h)) := by
 simp only [spec_l1In.f]
 by_cases h1 : a ≥ l
 ·rw [if_pos h1, decide_eq_true (show l ≤ a from h1)]; rfl
 ·rw [if_neg h1, decide_eq_false (show ¬ l ≤ a from h1)]; rfl
theorem i_in (a l h : Int) : impl_in.f a l h = some (decide (l ≤ a) && decide (a ≤ h)) := by
 simp only [impl_in.f]
 by_cases h1 : a ≥ l
 ·rw [if_pos h1, decide_eq_true (show l ≤ a from h1)]; rfl
 ·rw [if_neg h1, decide_eq_false (show ¬ l ≤ a from h1)]; rfl
def inB (a l h : Int) : Bool := decide (l ≤ a) && decide (a ≤ h)
def factOk (n i s : Int) : Bool := inB n 0 7 && (inB i 0 999 && inB s 1 4)
theorem s_factOk (a b c : Int) (d : Bool) : spec_FactOk.f a b c d = some (factOk a b c) := by
 simp only [spec_FactOk.f, s_in, bind_some, factOk, inB]
 cases (decide (0 ≤ a) && decide (a ≤ 7)) <;> cases (decide (0 ≤ b) && decide (b ≤ 999)) <;> simp
theorem i_factOk (a b c : Int) (d : Bool) : impl_FactOk.f a b c d = some (factOk a b c) := by
 simp only [impl_FactOk.f, impl_isNode.f, i_in, bind_some, factOk, inB]
 cases (decide (0 ≤ a) && decide (a ≤ 7)) <;> cases (decide (0 ≤ b) && decide (b ≤ 999)) <;> simp
def fok (x : S30) : Bool := factOk x.f0 x.f1 x.f2
def tabB : Int → List S30 → Bool
 | _, [] => true
 | p, x :: xs => fok x && (decide (p < x.f0) && tabB x.f0 xs)
def prevOf (l : List S30) (n : Nat) : Int := if n = 0 then -1 else (rd_T30 l ((n - 1 : Nat) : Int)).f0
theorem fok_node {x : S30} (h : fok x = true) : 0 ≤ x.f0 ∧ x.f0 ≤ 7 ∧ 0 ≤ x.f1 ∧ x.f1 ≤ 999 ∧ 1 ≤ x.f2 ∧ x.f2 ≤ 4 := by
 simp only [fok, factOk, inB, Bool.and_eq_true, decide_eq_true_eq] at h
 omega
theorem rdF (l : List S30) (n : Nat) (h : n < l.length) : rd_T30 l (n : Int) = l[n] := by
 unfold rd_T30
 rw [Int.toNat_natCast, List.getD_eq_getElem?_getD, List.getElem?_eq_getElem h]; rfl
theorem tabB_step (l : List S30) (n : Nat) (h : n < l.length) : tabB (prevOf l n) (l.drop n) = (fok l[n] && (decide (prevOf l n < l[n].f0) && tabB (prevOf l (n + 1)) (l.drop (n + 1)))) := by
 rw [drop_eq_getElem_cons h]
 have e : prevOf l (n + 1) = l[n].f0 := by unfold prevOf; rw [if_neg (by omega), Nat.add_sub_cancel, rdF l n h]
 rw [e]; rfl
theorem i_tab_loop (l : List S30) (hl : l.length ≤ 1000000000000) (d : Nat) : ∀ (k n : Nat), n ≤ l.length → l.length - n = d → d < k → impl_TableOk.l0 k l l (l.length : Int) (n : Int) = some (tabB (prevOf l n) (l.drop n)) := by
 induction d with
 | zero =>
  intro k n h0 h1 h2
  obtain ⟨k, rfl⟩ := xk (show 1 ≤ k by omega)
  obtain rfl : n = l.length := by omega
  simp only [impl_TableOk.l0]; rw [if_neg (by omega), drop_length]; rfl
 | succ d ih =>
  intro k n h0 h1 h2
  obtain ⟨k, rfl⟩ := xk (show 1 ≤ k by omega)
  have hn : n < l.length := by omega
  have ih' := ih k (n + 1) (by omega) (by omega) (by omega)
  have w1 := wq n (by omega)
  rw [tabB_step l n hn]
  simp only [impl_TableOk.l0]
  rw [if_pos (by omega), if_pos (by omega), if_pos (by omega), i_factOk, rdF l n hn, w1, ih']
  simp only [bind_some]
  show (if fok l[n] = true then _ else _) = _
  cases hf : fok l[n]
  ·rfl
  ·obtain ⟨f0, -⟩ := fok_node hf
   rw [if_pos rfl, Bool.true_and]
   by_cases hz : n = 0
   ·subst hz
    rw [if_neg (by omega), decide_eq_true (by unfold prevOf; rw [if_pos rfl]; omega), Bool.true_and]
   ·have w2 : wrap64 ((n : Int) - 1) = ((n - 1 : Nat) : Int) := by rw [w64 (by omega) (by omega)]; omega
    have hp : prevOf l n = l[n - 1].f0 := by unfold prevOf; rw [if_neg hz, rdF l (n - 1) (by omega)]
    rw [if_pos (by omega), w2, if_pos (by omega), if_pos (by omega), rdF l (n - 1) (by omega), hp]
    by_cases hlt : l[n - 1].f0 < l[n].f0
    ·rw [if_neg (by omega), decide_eq_true hlt, Bool.true_and]
    ·rw [if_pos (by omega), decide_eq_false hlt, Bool.false_and]
def tOk (l : List S30) : Bool := tabB (-1) l
theorem i_tab (l : List S30) (hl : l.length ≤ 1000000000000) (k : Nat) (hk : l.length < k) : impl_TableOk.f k l = some (tOk l) := i_tab_loop l hl l.length k 0 (by omega) (by omega) hk
def cmpI (a b : Int) : Int := if a < b then -1 else if a > b then 1 else 0
theorem cmp_eq (a b : Int) : cmp_Compare_int.f a b = some (cmpI a b) := by
 simp only [cmp_Compare_int.f, cmp_isNaN_int.f, bind_some, bne_self_eq_false, Bool.false_eq_true, if_false, cmpI]
 by_cases h : a < b
 ·rw [if_pos h, if_pos h]
 ·rw [if_neg h, if_neg h]
  by_cases h2 : a > b
  ·rw [if_pos h2, if_pos h2]
  ·rw [if_neg h2, if_neg h2]
theorem or4 (a b c d : Int) (k : Nat) (hk : 5 ≤ k) : cmp_Or_int.f k [a, b, c, d] = some (if a = 0 then (if b = 0 then (if c = 0 then d else c) else b) else a) := by
 obtain ⟨k, rfl⟩ := xk (a := 5) (by omega : 5 ≤ k)
 have e0 : wrap64 (0 + 1) = 1 := w64 (by omega) (by omega)
 have e1 : wrap64 (1 + 1) = 2 := w64 (by omega) (by omega)
 have e2 : wrap64 (2 + 1) = 3 := w64 (by omega) (by omega)
 have e3 : wrap64 (3 + 1) = 4 := w64 (by omega) (by omega)
 have r0 : rd [a, b, c, d] 0 = a := rfl
 have r1 : rd [a, b, c, d] 1 = b := rfl
 have r2 : rd [a, b, c, d] 2 = c := rfl
 have r3 : rd [a, b, c, d] 3 = d := rfl
 have hl : (([a, b, c, d] : List Int).length : Int) = 4 := rfl
 simp only [cmp_Or_int.f, cmp_Or_int.l0, hl, r0, e0]
 rw [if_pos (by decide), if_pos (by decide), if_pos (by decide)]
 by_cases ha : a = 0
 ·rw [if_pos ha, if_pos ha]
  simp only [r1, e1]
  rw [if_pos (by decide), if_pos (by decide), if_pos (by decide)]
  by_cases hb : b = 0
  ·rw [if_pos hb, if_pos hb]
   simp only [r2, e2]
   rw [if_pos (by decide), if_pos (by decide), if_pos (by decide)]
   by_cases hc : c = 0
   ·rw [if_pos hc, if_pos hc]
    simp only [r3, e3]
    rw [if_pos (by decide), if_pos (by decide), if_pos (by decide)]
    by_cases hd : d = 0
    ·rw [if_pos hd, if_neg (by decide), hd]
    ·rw [if_neg hd]
   ·rw [if_neg hc, if_neg hc]
  ·rw [if_neg hb, if_neg hb]
 ·rw [if_neg ha, if_neg ha]
def gateI (f g : Bool) : Int := if (f && !g) = true then 1 else if (g && !f) = true then -1 else 0
def cmpF (n i s : Int) (f : Bool) (n' i' s' : Int) (g : Bool) : Int := if cmpI n n' = 0 then (if cmpI i i' = 0 then (if cmpI s s' = 0 then gateI f g else cmpI s s') else cmpI i i') else cmpI n n'
theorem compare_eq (n i s : Int) (f : Bool) (n' i' s' : Int) (g : Bool) (k : Nat) (hk : 8 ≤ k) : impl_Fact_compare.f k n i s f n' i' s' g = some (cmpF n i s f n' i' s' g) := by
 obtain ⟨k, rfl⟩ := xk (show 2 ≤ k by omega)
 have hj : ∀ x, impl_Fact_compare.j1 (k + 1) x n i s f n' i' s' g = some (if cmpI n n' = 0 then (if cmpI i i' = 0 then (if cmpI s s' = 0 then x else cmpI s s') else cmpI i i') else cmpI n n') := by
  intro x
  simp only [impl_Fact_compare.j1, cmp_eq, bind_some, or4 _ _ _ _ k (by omega)]
 simp only [impl_Fact_compare.f, impl_Fact_compare.j0, hj, cmpF]
 cases f <;> cases g <;> rfl
def overB (i s : Int) (f : Bool) (i' s' : Int) (g : Bool) : Bool := if i = i' then (if s = s' then f && !g else decide (s > s')) else decide (i > i')
theorem cmpI_zero (a b : Int) : cmpI a b = 0 ↔ a = b := by
 unfold cmpI
 split
 ·omega
 ·split <;> omega
theorem cmpI_pos (a b : Int) : (decide (cmpI a b > 0)) = decide (a > b) := by
 unfold cmpI
 split
 ·rw [decide_eq_false (by omega), decide_eq_false (by omega)]
 ·split
  ·rw [decide_eq_true (by omega), decide_eq_true (by omega)]
  ·rw [decide_eq_false (by omega), decide_eq_false (by omega)]
theorem cmpF_pos (n i s : Int) (f : Bool) (i' s' : Int) (g : Bool) : decide (cmpF n i s f n i' s' g > 0) = overB i s f i' s' g := by
 unfold cmpF overB
 rw [if_pos ((cmpI_zero _ _).mpr rfl)]
 by_cases h1 : i = i'
 ·rw [if_pos ((cmpI_zero _ _).mpr h1), if_pos h1]
  by_cases h2 : s = s'
  ·rw [if_pos ((cmpI_zero _ _).mpr h2), if_pos h2]
   cases f <;> cases g <;> rfl
  ·rw [if_neg (fun h => h2 ((cmpI_zero _ _).mp h)), if_neg h2, cmpI_pos]
 ·rw [if_neg (fun h => h1 ((cmpI_zero _ _).mp h)), if_neg h1, cmpI_pos]
theorem s_l3Over (n i s : Int) (f : Bool) (n' i' s' : Int) (g : Bool) : spec_l3Over.f n i s f n' i' s' g = some (overB i s f i' s' g) := by
 simp only [spec_l3Over.f, overB]
 by_cases h1 : i = i'
 ·rw [if_pos h1, if_pos h1]
  by_cases h2 : s = s'
  ·rw [if_pos h2, if_pos h2]
   cases f <;> rfl
  ·rw [if_neg h2, if_neg h2]
 ·rw [if_neg h1, if_neg h1]
theorem tabB_pw : ∀ (p : Int) (l : List S30), tabB p l = true → (∀ x ∈ l, p < x.f0) ∧ l.Pairwise (fun a b => a.f0 < b.f0)
 | _, [], _ => ⟨fun x hx => (by cases hx), List.Pairwise.nil⟩
 | p, y :: ys, h => by
  simp only [tabB, Bool.and_eq_true, decide_eq_true_eq] at h
  obtain ⟨h1, h2, h3⟩ := h
  obtain ⟨i1, i2⟩ := tabB_pw _ _ h3
  refine ⟨fun x hx => ?_, List.Pairwise.cons (fun b hb => i1 b hb) i2⟩
  rcases mem_cons.1 hx with rfl | hx
  ·exact h2
  ·have := i1 x hx; omega
theorem tabB_fok : ∀ (p : Int) (l : List S30), tabB p l = true → ∀ x ∈ l, fok x = true
 | _, [], _ => fun x hx => (by cases hx)
 | p, y :: ys, h => by
  simp only [tabB, Bool.and_eq_true, decide_eq_true_eq] at h
  obtain ⟨h1, h2, h3⟩ := h
  intro x hx
  rcases mem_cons.1 hx with rfl | hx
  ·exact h1
  ·exact tabB_fok _ _ h3 x hx
theorem tabB_of : ∀ (p : Int) (l : List S30), (∀ x ∈ l, fok x = true) → (∀ x ∈ l, p < x.f0) → l.Pairwise (fun a b => a.f0 < b.f0) → tabB p l = true
 | _, [], _, _, _ => rfl
 | p, y :: ys, h1, h2, h3 => by
  simp only [tabB, Bool.and_eq_true, decide_eq_true_eq]
  obtain ⟨q1, q2⟩ := List.pairwise_cons.1 h3
  exact ⟨h1 y mem_cons_self, h2 y mem_cons_self, tabB_of _ _ (fun x hx => h1 x (mem_cons_of_mem _ hx)) (fun x hx => q1 x hx) q2⟩
theorem tOk_iff (l : List S30) : tOk l = true ↔ (∀ x ∈ l, fok x = true) ∧ l.Pairwise (fun a b => a.f0 < b.f0) :=
 ⟨fun h => ⟨tabB_fok _ _ h, (tabB_pw _ _ h).2⟩, fun h => tabB_of _ _ h.1 (fun x hx => by have := (fok_node (h.1 x hx)).1; omega) h.2⟩
theorem tab_lt (l : List S30) (h : tOk l = true) (i j : Nat) (hj : j < l.length) (hij : i < j) : (l[i]'(by omega)).f0 < l[j].f0 :=
 (pairwise_iff_getElem.1 (tabB_pw _ _ h).2) i j _ hj hij
def fnd (a : Int) : Int → List S30 → Int
 | _, [] => -1
 | n, x :: xs => if x.f0 = a then n else fnd a (n + 1) xs
theorem fnd_spec (a : Int) : ∀ (l : List S30) (n : Int), (fnd a n l = -1 ∧ ∀ x ∈ l, x.f0 ≠ a) ∨ (∃ i : Nat, ∃ h : i < l.length, fnd a n l = n + i ∧ (l[i]'h).f0 = a)
 | [], n => .inl ⟨rfl, fun x hx => (by cases hx)⟩
 | x :: xs, n => by
  by_cases e : x.f0 = a
  ·exact .inr ⟨0, by simp, by simp only [fnd, if_pos e]; omega, e⟩
  ·rcases fnd_spec a xs (n + 1) with ⟨h1, h2⟩ | ⟨i, hi, h1, h2⟩
   ·refine .inl ⟨by simp only [fnd, if_neg e]; exact h1, fun y hy => ?_⟩
    rcases mem_cons.1 hy with rfl | hy
    ·exact e
    ·exact h2 y hy
   ·exact .inr ⟨i + 1, by simpa using hi, by simp only [fnd, if_neg e, h1]; omega, h2⟩
theorem i_cmp (a b : Int) : cmp_Compare_int.f a b = some (cmpI a b) := by
 simp only [cmp_Compare_int.f, cmp_isNaN_int.f, bind_some, bne_self_eq_false, Bool.false_eq_true, if_false, cmpI]
 split
 ·rfl
 ·split <;> rfl
theorem cmp_lt (a b : Int) : cmpI a b < 0 ↔ a < b := by
 unfold cmpI; split
 ·exact ⟨fun _ => ‹_›, fun _ => by omega⟩
 ·split <;> exact ⟨fun h => absurd h (by omega), fun h => absurd h ‹_›⟩
theorem cmp_zero (a b : Int) : (cmpI a b == 0) = decide (a = b) := by
 unfold cmpI; split
 ·rw [decide_eq_false (by omega)]; rfl
 ·split
  ·rw [decide_eq_false (by omega)]; rfl
  ·rw [decide_eq_true (by omega)]; rfl
theorem u64w {n : Int} (h : 0 ≤ n) (h' : n ≤ 9223372036854775807) : IntKind.u64.wrap n = n := by
 unfold IntKind.wrap; simp only [IntKind.bits, IntKind.signed]; first | omega | (simp; omega)
theorem half (i j : Nat) (hj : j ≤ 1000000000000) (hi : i ≤ 1000000000000) : wrap64 (IntKind.u64.wrap (wrap64 ((i : Int) + (j : Int))) / 2) = (((i + j) / 2 : Nat) : Int) := by
 rw [w64 (n := (i : Int) + j) (by omega) (by omega), u64w (by omega) (by omega), w64 (by omega) (by omega)]; omega
theorem i_bin (l : List S30) (a : Int) (hl : l.length ≤ 1000000000000) (hs : tOk l = true) (d : Nat) : ∀ (k i j : Nat), i ≤ j → j ≤ l.length → j - i ≤ d → d < k → (∀ t (h : t < l.length), t < i → l[t].f0 < a) → (∀ t (h : t < l.length), j ≤ t → a ≤ l[t].f0) →
  ∃ (m : Nat) (b : Bool), impl_Fact_int.l0 k l a (l.length : Int) (i : Int) (j : Int) = some ((m : Int), b) ∧ m ≤ l.length ∧ (∀ t (h : t < l.length), t < m → l[t].f0 < a) ∧ (∀ t (h : t < l.length), m ≤ t → a ≤ l[t].f0) ∧ (b = true → ∃ h : m < l.length, (l[m]'h).f0 = a) ∧ (b = false → ∀ t (h : t < l.length), l[t].f0 ≠ a) := by
 induction d with
 | zero =>
  intro k i j h1 h2 h3 h4 p q
  obtain ⟨k, rfl⟩ := xk (show 1 ≤ k by omega)
  obtain rfl : i = j := by omega
  simp only [impl_Fact_int.l0]
  rw [if_neg (by omega)]
  by_cases hn : i < l.length
  ·rw [if_pos (by omega), if_pos (by omega), if_pos (by omega), rdF l i hn]
   simp only [impl_find_1.f, i_cmp, bind_some, cmp_zero]
   refine ⟨i, _, rfl, h2, p, q, fun hb => ⟨hn, of_decide_eq_true hb⟩, fun hb t ht he => ?_⟩
   have hne := of_decide_eq_false hb
   by_cases c1 : t < i
   ·have := p t ht c1; omega
   ·by_cases c2 : t = i
    ·subst c2; exact hne he
    ·have h5 := tab_lt l hs i t ht (by omega)
     have h6 := q i hn (by omega)
     omega
  ·rw [if_neg (by omega)]
   refine ⟨i, false, rfl, h2, p, q, fun hb => (by cases hb), fun _ t ht he => ?_⟩
   have := p t ht (by omega); omega
 | succ d ih =>
  intro k i j h1 h2 h3 h4 p q
  obtain ⟨k, rfl⟩ := xk (show 1 ≤ k by omega)
  by_cases hij : i < j
  ·generalize hm : (i + j) / 2 = m
   have hmi : i ≤ m := by omega
   have hmj : m < j := by omega
   have hml : m < l.length := by omega
   have hw := half i j (by omega) (by omega)
   rw [hm] at hw
   have w1 : wrap64 ((m : Int) + 1) = ((m + 1 : Nat) : Int) := by rw [w64 (by omega) (by omega)]; omega
   simp only [impl_Fact_int.l0, hw, w1]
   clear hw w1
   rw [if_pos (by omega), if_pos (by omega), if_pos (by omega), rdF l m hml]
   simp only [impl_find_1.f, i_cmp, bind_some, cmp_lt]
   by_cases hc : l[m].f0 < a
   ·rw [if_pos hc]
    refine ih k (m + 1) j (by omega) h2 (by omega) (by omega) (fun t ht htm => ?_) q
    by_cases e : t = m
    ·subst e; exact hc
    ·have := tab_lt l hs t m hml (by omega); omega
   ·rw [if_neg hc]
    refine ih k i m (by omega) (by omega) (by omega) (by omega) p (fun t ht htm => ?_)
    by_cases e : t = m
    ·subst e; omega
    ·have := tab_lt l hs m t ht (by omega); omega
  ·obtain rfl : i = j := by omega
   exact ih (k + 1) i i (by omega) h2 (by omega) (by omega) p q
theorem i_find (l : List S30) (a : Int) (hl : l.length ≤ 1000000000000) (hs : tOk l = true) (k : Nat) (hk : l.length < k) : ∃ (m : Nat) (b : Bool), impl_find.f k l a = some ((m : Int), b) ∧ m ≤ l.length ∧ (∀ t (h : t < l.length), t < m → l[t].f0 < a) ∧ (∀ t (h : t < l.length), m ≤ t → a ≤ l[t].f0) ∧ (b = true → ∃ h : m < l.length, (l[m]'h).f0 = a) ∧ (b = false → ∀ t (h : t < l.length), l[t].f0 ≠ a) := by
 obtain ⟨m, b, h1, h2⟩ := i_bin l a hl hs l.length k 0 l.length (by omega) (by omega) (by omega) hk (fun t ht h => absurd h (by omega)) (fun t ht h => absurd ht (by omega))
 refine ⟨m, b, ?_, h2⟩
 simp only [impl_find.f, impl_Fact_int.f]
 rw [show ((0 : Int)) = ((0 : Nat) : Int) from rfl, h1]; rfl
def pos (a : Int) : List S30 → Nat
 | [] => 0
 | y :: ys => if y.f0 < a then pos a ys + 1 else 0
theorem pos_le (a : Int) : ∀ l : List S30, pos a l ≤ l.length
 | [] => Nat.le_refl _
 | y :: ys => by
  have := pos_le a ys
  simp only [pos, length_cons]
  split <;> omega
theorem pos_lt (a : Int) : ∀ (l : List S30), ∀ x ∈ l.take (pos a l), x.f0 < a
 | [], x, hx => by simp at hx
 | y :: ys, x, hx => by
  simp only [pos] at hx
  by_cases h : y.f0 < a
  ·rw [if_pos h, List.take_succ_cons] at hx
   rcases mem_cons.1 hx with rfl | hx
   ·exact h
   ·exact pos_lt a ys x hx
  ·rw [if_neg h] at hx
   simp at hx
theorem pos_at (a : Int) : ∀ (l : List S30) (h : pos a l < l.length), ¬ (l[pos a l]).f0 < a
 | [], h => by simp at h
 | y :: ys, h => by
  by_cases c : y.f0 < a
  ·have hp : pos a (y :: ys) = pos a ys + 1 := by simp only [pos, if_pos c]
   have h2 : pos a ys < ys.length := by rw [hp] at h; simpa using h
   have := pos_at a ys h2
   simp only [hp, getElem_cons_succ]
   exact this
  ·have hp : pos a (y :: ys) = 0 := by simp only [pos, if_neg c]
   simp only [hp, List.getElem_cons_zero]
   exact c
theorem s_find_loop (l : List S30) (a : Int) (hl : l.length ≤ 1000000000000) (d : Nat) : ∀ (k n : Nat), n ≤ l.length → l.length - n = d → d < k → spec_l3Find.l0 k l a (n : Int) = some (fnd a (n : Int) (l.drop n)) := by
 induction d with
 | zero =>
  intro k n h0 h1 h2
  obtain ⟨k, rfl⟩ := xk (show 1 ≤ k by omega)
  obtain rfl : n = l.length := by omega
  simp only [spec_l3Find.l0]; rw [if_neg (by omega), drop_length]; rfl
 | succ d ih =>
  intro k n h0 h1 h2
  obtain ⟨k, rfl⟩ := xk (show 1 ≤ k by omega)
  have hn : n < l.length := by omega
  have ih' := ih k (n + 1) (by omega) (by omega) (by omega)
  have w1 := wq n (by omega)
  rw [drop_eq_getElem_cons hn]
  simp only [spec_l3Find.l0, fnd]
  rw [if_pos (by omega), if_pos (by omega), rdF l n hn, w1, ih']
  by_cases e : l[n].f0 = a
  ·rw [if_pos e, if_pos e]
  ·rw [if_neg e, if_neg e]; rfl
theorem s_find (l : List S30) (a : Int) (hl : l.length ≤ 1000000000000) (k : Nat) (hk : l.length < k) : spec_l3Find.f k l a = some (fnd a 0 l) := s_find_loop l a hl l.length k 0 (by omega) (by omega) hk
def insL (l : List S30) (x : S30) : List S30 := l.take (pos x.f0 l) ++ [x] ++ l.drop (pos x.f0 l)
def putL (l : List S30) (x : S30) : List S30 × Bool :=
 if fnd x.f0 0 l < 0 then (insL l x, true)
 else if overB x.f1 x.f2 x.f3 (rd_T30 l (fnd x.f0 0 l)).f1 (rd_T30 l (fnd x.f0 0 l)).f2 (rd_T30 l (fnd x.f0 0 l)).f3 = true then (l.set (fnd x.f0 0 l).toNat x, true) else (l, false)
theorem insL_length (l : List S30) (x : S30) : (insL l x).length = l.length + 1 := by
 have := pos_le x.f0 l
 simp only [insL, length_append, length_take, length_drop, length_singleton]
 omega
theorem putL_length (l : List S30) (x : S30) : (putL l x).1.length ≤ l.length + 1 := by
 unfold putL
 split
 ·rw [insL_length]; exact Nat.le_refl _
 ·split
  ·simp only [length_set]; omega
  ·exact Nat.le_succ _
theorem fnd_lt (l : List S30) (a : Int) : fnd a 0 l < 0 ∨ ∃ i : Nat, ∃ h : i < l.length, fnd a 0 l = i ∧ (l[i]'h).f0 = a := by
 rcases fnd_spec a l 0 with ⟨h, -⟩ | ⟨i, hi, h, h2⟩
 ·exact .inl (by omega)
 ·exact .inr ⟨i, hi, by omega, h2⟩
theorem s_ins_loop (l : List S30) (x : S30) (hl : l.length ≤ 1000000000000) (d : Nat) : ∀ (k n : Nat), n ≤ pos x.f0 l → pos x.f0 l - n = d → 2 * d + 1 < k → spec_l3Put.l0 k l (n : Int) x.f0 x.f1 x.f2 x.f3 = some (insL l x, true) := by
 have hp := pos_le x.f0 l
 induction d with
 | zero =>
  intro k n h0 h1 h2
  obtain ⟨k, rfl⟩ := xk (show 2 ≤ k by omega)
  obtain rfl : n = pos x.f0 l := by omega
  have he : spec_l3Put.j1 (k + 1) l (pos x.f0 l : Int) false x.f0 x.f1 x.f2 x.f3 = some (insL l x, true) := by
   simp only [spec_l3Put.j1, Bool.false_eq_true, if_false, bind_some, Int.toNat_natCast, nil_append]
   rw [if_pos (by omega), if_pos (by omega), if_pos (by simp only [length_nil, length_take]; omega), if_pos (by simp only [length_take, length_singleton]; omega), if_pos (by simp only [length_append, length_take, length_singleton, length_drop]; omega)]
   rfl
  simp only [spec_l3Put.l0]
  by_cases h : pos x.f0 l < l.length
  ·have h3 := pos_at x.f0 l h
   rw [if_pos (by omega), if_pos (by omega), rdF l _ h, decide_eq_false h3]
   exact he
  ·rw [if_neg (by omega)]
   exact he
 | succ d ih =>
  intro k n h0 h1 h2
  obtain ⟨k, rfl⟩ := xk (show 2 ≤ k by omega)
  have hn : n < l.length := by omega
  have ih' := ih k (n + 1) (by omega) (by omega) (by omega)
  have w1 := wq n (by omega)
  have h3 : l[n].f0 < x.f0 := pos_lt x.f0 l _ (by
   rw [mem_iff_getElem]
   exact ⟨n, by rw [length_take]; omega, by rw [getElem_take]⟩)
  simp only [spec_l3Put.l0]
  rw [if_pos (by omega), if_pos (by omega), rdF l n hn, decide_eq_true h3]
  simp only [spec_l3Put.j1, if_true, w1]
  exact ih'
theorem s_put (l : List S30) (x : S30) (hl : l.length ≤ 1000000000000) (k : Nat) (hk : 2 * l.length + 1 < k) : spec_l3Put.f k l x.f0 x.f1 x.f2 x.f3 = some (putL l x) := by
 simp only [spec_l3Put.f, s_find l x.f0 hl k (by omega), bind_some, putL]
 rcases fnd_lt l x.f0 with h | ⟨i, hi, h, h2⟩
 ·rw [if_neg (by omega), if_pos h]
  exact s_ins_loop l x hl (pos x.f0 l) k 0 (by omega) (by omega) (by have := pos_le x.f0 l; omega)
 ·rw [h, if_pos (by omega), if_pos (by omega), if_pos (by omega), if_neg (show ¬ ((i : Int) < 0) by omega), s_l3Over, bind_some, length_nil, Nat.zero_add, nil_append]
  cases overB x.f1 x.f2 x.f3 (rd_T30 l (i : Int)).f1 (rd_T30 l (i : Int)).f2 (rd_T30 l (i : Int)).f3
  ·rfl
  ·rw [if_pos rfl, if_pos rfl, if_pos (by omega), if_pos (by omega)]
theorem rdI (l : List S57) (n : Nat) (h : n < l.length) : rd_T57 l (n : Int) = l[n] := by
 unfold rd_T57
 rw [Int.toNat_natCast, List.getD_eq_getElem?_getD, List.getElem?_eq_getElem h]; rfl
def castB : Int → List S57 → Bool
 | _, [] => true
 | p, x :: xs => fok x.f0 && (inB x.f1 1 4 && (decide (p < x.f0.f0) && castB x.f0.f0 xs))
def leftB : List S57 → Bool
 | [] => true
 | x :: xs => inB x.f1 1 4 && leftB xs
theorem castB_eq : ∀ (p : Int) (l : List S57), castB p l = (tabB p (l.map (·.f0)) && leftB l)
 | _, [] => rfl
 | p, x :: xs => by
  simp only [castB, tabB, leftB, List.map_cons, castB_eq x.f0.f0 xs]
  cases fok x.f0 <;> cases inB x.f1 1 4 <;> cases decide (p < x.f0.f0) <;> simp
def prevI (l : List S57) (n : Nat) : Int := if n = 0 then -1 else (rd_T57 l ((n - 1 : Nat) : Int)).f0.f0
theorem castB_step (l : List S57) (n : Nat) (h : n < l.length) : castB (prevI l n) (l.drop n) = (fok l[n].f0 && (inB l[n].f1 1 4 && (decide (prevI l n < l[n].f0.f0) && castB (prevI l (n + 1)) (l.drop (n + 1))))) := by
 rw [drop_eq_getElem_cons h]
 have e : prevI l (n + 1) = l[n].f0.f0 := by unfold prevI; rw [if_neg (by omega), Nat.add_sub_cancel, rdI l n h]
 rw [e]; rfl
theorem s_cast_loop (l : List S57) (hl : l.length ≤ 1000000000000) (d : Nat) : ∀ (k n : Nat), n ≤ l.length → l.length - n = d → 2 * d < k → spec_CastOk.l0 k l (n : Int) = some (castB (prevI l n) (l.drop n)) := by
 induction d with
 | zero =>
  intro k n h0 h1 h2
  obtain ⟨k, rfl⟩ := xk (show 1 ≤ k by omega)
  obtain rfl : n = l.length := by omega
  simp only [spec_CastOk.l0]; rw [if_neg (by omega), drop_length]; rfl
 | succ d ih =>
  intro k n h0 h1 h2
  obtain ⟨k, rfl⟩ := xk (show 2 ≤ k by omega)
  have hn : n < l.length := by omega
  have ih' := ih k (n + 1) (by omega) (by omega) (by omega)
  have w1 := wq n (by omega)
  have j1 : ∀ c : Bool, spec_CastOk.j1 (k + 1) l (n : Int) c = some (!c && castB (prevI l (n + 1)) (l.drop (n + 1))) := by
   intro c
   simp only [spec_CastOk.j1, w1, ih']
   cases c <;> rfl
  rw [castB_step l n hn]
  simp only [spec_CastOk.l0]
  rw [if_pos (by omega), if_pos (by omega), s_factOk, rdI l n hn, s_in]
  simp only [bind_some, j1]
  show (if fok l[n].f0 = true then (if inB l[n].f1 1 4 = true then _ else _) else _) = _
  cases hf : fok l[n].f0
  ·rfl
  ·obtain ⟨f0, -⟩ := fok_node hf
   rw [if_pos rfl, Bool.true_and]
   cases inB l[n].f1 1 4
   ·rfl
   ·rw [if_pos rfl, Bool.true_and]
    by_cases hz : n = 0
    ·subst hz
     rw [if_neg (by omega), decide_eq_true (by unfold prevI; rw [if_pos rfl]; omega), Bool.true_and]
     rfl
    ·have w2 : wrap64 ((n : Int) - 1) = ((n - 1 : Nat) : Int) := by rw [w64 (by omega) (by omega)]; omega
     have hp : prevI l n = l[n - 1].f0.f0 := by unfold prevI; rw [if_neg hz, rdI l (n - 1) (by omega)]
     rw [if_pos (by omega), w2, if_pos (by omega), if_pos (by omega), rdI l (n - 1) (by omega), hp]
     by_cases hlt : l[n - 1].f0.f0 < l[n].f0.f0
     ·rw [decide_eq_false (by omega), decide_eq_true hlt]; rfl
     ·rw [decide_eq_true (by omega), decide_eq_false hlt]; rfl
theorem i_facts_loop (l : List S57) (hl : l.length ≤ 1000000000000) (d : Nat) : ∀ (k n : Nat) (acc : List S30), acc.length = n → n ≤ l.length → l.length - n = d → d < k → impl_facts.l0 k acc l (l.length : Int) (n : Int) = some (acc ++ (l.drop n).map (·.f0)) := by
 induction d with
 | zero =>
  intro k n acc ha h0 h1 h2
  obtain ⟨k, rfl⟩ := xk (show 1 ≤ k by omega)
  obtain rfl : n = l.length := by omega
  simp only [impl_facts.l0]; rw [if_neg (by omega), drop_length]; simp
 | succ d ih =>
  intro k n acc ha h0 h1 h2
  obtain ⟨k, rfl⟩ := xk (show 1 ≤ k by omega)
  have hn : n < l.length := by omega
  have w1 := wq n (by omega)
  have ih2 := ih k (n + 1) (acc ++ [l[n].f0]) (by rw [length_append, length_singleton]; omega) (by omega) (by omega) (by omega)
  simp only [impl_facts.l0]
  rw [if_pos (by omega), if_pos (by omega), if_pos (by omega), if_pos (by omega), rdI l n hn, w1, drop_eq_getElem_cons hn, List.map_cons]
  refine ih2.trans ?_
  rw [append_assoc]; rfl
theorem i_facts (l : List S57) (hl : l.length ≤ 1000000000000) (k : Nat) (hk : l.length < k) : impl_facts.f k l = some (l.map (·.f0)) := by
 have := i_facts_loop l hl l.length k 0 [] rfl (by omega) (by omega) hk
 simpa [impl_facts.f] using this
theorem i_left_loop (l : List S57) (hl : l.length ≤ 1000000000000) (d : Nat) : ∀ (k n : Nat), n ≤ l.length → l.length - n = d → d < k → ∃ t, impl_Item_67.l0 k l (l.length : Int) (n : Int) = some t ∧ decide (t ≥ 0) = !leftB (l.drop n) := by
 induction d with
 | zero =>
  intro k n h0 h1 h2
  obtain ⟨k, rfl⟩ := xk (show 1 ≤ k by omega)
  obtain rfl : n = l.length := by omega
  simp only [impl_Item_67.l0]; rw [if_neg (by omega), drop_length]; exact ⟨_, rfl, rfl⟩
 | succ d ih =>
  intro k n h0 h1 h2
  obtain ⟨k, rfl⟩ := xk (show 1 ≤ k by omega)
  have hn : n < l.length := by omega
  obtain ⟨t, e1, e2⟩ := ih k (n + 1) (by omega) (by omega) (by omega)
  have w1 := wq n (by omega)
  rw [drop_eq_getElem_cons hn]
  simp only [impl_Item_67.l0, leftB, impl_CastOk_1.f, i_in, bind_some]
  rw [if_pos (by omega), if_pos (by omega), if_pos (by omega), rdI l n hn, w1, e1]
  show ∃ t_, (if (!inB l[n].f1 1 4) = true then some (n : Int) else some t) = some t_ ∧ _
  cases inB l[n].f1 1 4
  ·exact ⟨_, rfl, by rw [Bool.false_and]; exact decide_eq_true (by omega)⟩
  ·exact ⟨t, rfl, by rw [Bool.true_and]; exact e2⟩
def cOk (l : List S57) : Bool := castB (-1) l
theorem s_cast (l : List S57) (hl : l.length ≤ 1000000000000) (k : Nat) (hk : 2 * l.length < k) : spec_CastOk.f k l = some (cOk l) := s_cast_loop l hl l.length k 0 (by omega) (by omega) hk
theorem i_cast (l : List S57) (hl : l.length ≤ 1000000000000) (k : Nat) (hk : l.length < k) : impl_CastOk.f k l = some (cOk l) := by
 obtain ⟨t, e1, e2⟩ := i_left_loop l hl l.length k 0 (by omega) (by omega) hk
 have hlen : (l.map (·.f0)).length = l.length := length_map ..
 have e3 : impl_Item_67.f k l () = some t := e1
 simp only [impl_CastOk.f, i_facts l hl k hk, i_tab (l.map (·.f0)) (by omega) k (by omega), bind_some, impl_Item_52.f, e3, e2, List.drop_zero, Bool.not_not, cOk, castB_eq, tOk]
 cases tabB (-1) (l.map (·.f0)) <;> rfl
def toldI (x : S30) : S57 := ⟨⟨x.f0, x.f1, x.f2, x.f3⟩, 4⟩
def ovI (x y : S30) : Bool := overB x.f1 x.f2 x.f3 y.f1 y.f2 y.f3
def putR (x : S30) : List S57 → Option (List S57)
 | [] => some [toldI x]
 | y :: ys => if y.f0.f0 < x.f0 then (putR x ys).map (y :: ·) else if y.f0.f0 = x.f0 then (if ovI x y.f0 = true then some (toldI x :: ys) else none) else some (toldI x :: y :: ys)
def putI (x : S30) (l : List S57) : List S57 := (putR x l).getD l
theorem putR_length (x : S30) : ∀ (l r : List S57), putR x l = some r → r.length ≤ l.length + 1
 | [], r, h => by
  obtain rfl := some.inj h
  simp
 | y :: ys, r, h => by
  simp only [putR] at h
  by_cases h1 : y.f0.f0 < x.f0
  ·rw [if_pos h1] at h
   obtain ⟨q, hq, rfl⟩ := map_eq_some_iff.1 h
   have := putR_length x ys q hq
   simp only [length_cons]; omega
  ·rw [if_neg h1] at h
   by_cases h2 : y.f0.f0 = x.f0
   ·rw [if_pos h2] at h
    cases ho : ovI x y.f0
    ·rw [ho] at h; cases h
    ·rw [ho] at h
     obtain rfl := some.inj h
     simp only [length_cons]; omega
   ·rw [if_neg h2] at h
    obtain rfl := some.inj h
    simp only [length_cons]; omega
theorem putI_length (x : S30) (l : List S57) : (putI x l).length ≤ l.length + 1 := by
 unfold putI
 cases h : putR x l with
 | none => exact Nat.le_succ _
 | some r => exact putR_length x l r h
def l5 (x : S30) (l : List S57) : List S57 → Bool → List S57 → List S57
 | out, done, [] => if done = true then out else out ++ [toldI x]
 | out, done, y :: ys =>
  if y.f0.f0 = x.f0 then (if ovI x y.f0 = true then (if done = true then l5 x l out true ys else l5 x l (out ++ [toldI x]) true ys) else l)
  else if done = true then l5 x l (out ++ [y]) true ys
  else if y.f0.f0 ≥ x.f0 then l5 x l (out ++ [toldI x] ++ [y]) true ys else l5 x l (out ++ [y]) false ys
theorem s_put5_loop (x : S30) (l : List S57) (hl : l.length ≤ 100000000) (d : Nat) : ∀ (k n : Nat) (out : List S57) (done : Bool), n ≤ l.length → l.length - n = d → out.length ≤ 2 * n + 1 → 3 * d < k → spec_l5PutS.l0 k l out done (n : Int) x.f0 x.f1 x.f2 x.f3 = some (l5 x l out done (l.drop n)) := by
 induction d with
 | zero =>
  intro k n out done h0 h1 h2 h3
  obtain ⟨k, rfl⟩ := xk (show 1 ≤ k by omega)
  obtain rfl : n = l.length := by omega
  simp only [spec_l5PutS.l0]; rw [if_neg (by omega), drop_length]
  cases done
  ·rw [if_neg (by decide), if_pos (by omega)]; rfl
  ·rw [if_pos rfl]; rfl
 | succ d ih =>
  intro k n out done h0 h1 h2 h3
  obtain ⟨k, rfl⟩ := xk (show 3 ≤ k by omega)
  have hn : n < l.length := by omega
  have w1 := wq n (by omega)
  have j2 : ∀ c : Bool, ovI x l[n].f0 = true ∨ l[n].f0.f0 ≠ x.f0 → spec_l5PutS.j2 (k + 1) l out done (n : Int) c x.f0 x.f1 x.f2 x.f3 l[n].f0.f0 l[n].f0.f1 l[n].f0.f2 l[n].f0.f3 = some (if l[n].f0.f0 = x.f0 then (if c = true then l5 x l (out ++ [toldI x]) true (l.drop (n + 1)) else l5 x l out done (l.drop (n + 1))) else (if c = true then l5 x l (out ++ [toldI x] ++ [l[n]]) true (l.drop (n + 1)) else l5 x l (out ++ [l[n]]) done (l.drop (n + 1)))) := by
   intro c _
   simp only [spec_l5PutS.j2, bind_some, rdI l n hn, w1]
   cases c
   ·simp only [Bool.false_eq_true, if_false]
    by_cases e : l[n].f0.f0 = x.f0
    ·rw [if_pos e, if_pos e]
     exact ih k (n + 1) out done (by omega) (by omega) (by omega) (by omega)
    ·rw [if_neg e, if_neg e, if_pos (by omega), if_pos (by omega), if_pos (by omega)]
     exact ih k (n + 1) (out ++ [l[n]]) done (by omega) (by omega) (by rw [length_append, length_singleton]; omega) (by omega)
   ·simp only [if_true]
    rw [if_pos (by omega)]
    by_cases e : l[n].f0.f0 = x.f0
    ·rw [if_pos e, if_pos e]
     exact ih k (n + 1) (out ++ [toldI x]) true (by omega) (by omega) (by rw [length_append, length_singleton]; omega) (by omega)
    ·rw [if_neg e, if_neg e, if_pos (by omega), if_pos (by omega), if_pos (by rw [length_append, length_singleton]; omega)]
     exact ih k (n + 1) (out ++ [toldI x] ++ [l[n]]) true (by omega) (by omega) (by simp only [length_append, length_singleton]; omega) (by omega)
  rw [drop_eq_getElem_cons hn]
  simp only [spec_l5PutS.l0, l5]
  rw [if_pos (by omega), if_pos (by omega), rdI l n hn]
  by_cases e : l[n].f0.f0 = x.f0
  ·rw [if_pos e, if_pos e, s_l3Over, bind_some]
   simp only [spec_l5PutS.j1]
   show (if (!ovI x l[n].f0) = true then _ else _) = _
   cases ho : ovI x l[n].f0
   ·rfl
   ·rw [if_neg (by decide), if_pos rfl]
    cases done
    ·rw [if_neg (by decide), j2 _ (.inl ho), if_pos e, decide_eq_true (by omega)]; rfl
    ·rw [if_pos rfl, j2 _ (.inl ho), if_pos e]; rfl
  ·rw [if_neg e, if_neg e]
   simp only [spec_l5PutS.j1]
   rw [if_neg (by decide)]
   cases done
   ·rw [if_neg (by decide), j2 _ (.inr e), if_neg e]
    by_cases g : l[n].f0.f0 ≥ x.f0
    ·rw [decide_eq_true g, if_pos g]; rfl
    ·rw [decide_eq_false g, if_neg g]; rfl
   ·rw [if_pos rfl, j2 _ (.inr e), if_neg e, if_pos rfl]; rfl
theorem s_put5 (x : S30) (l : List S57) (hl : l.length ≤ 100000000) (k : Nat) (hk : 3 * l.length < k) : spec_l5PutS.f k l x.f0 x.f1 x.f2 x.f3 = some (l5 x l [] false l) := s_put5_loop x l hl l.length k 0 [] false (by omega) (by omega) (by simp) (by omega)
theorem l5_done (x : S30) (l : List S57) : ∀ (rest out : List S57), (∀ y ∈ rest, x.f0 < y.f0.f0) → l5 x l out true rest = out ++ rest
 | [], out, _ => by simp [l5]
 | y :: ys, out, h => by
  have := h y mem_cons_self
  simp only [l5]
  rw [if_neg (by omega)]
  simp only [if_true]
  rw [l5_done x l ys _ (fun z hz => h z (mem_cons_of_mem _ hz)), append_assoc]; rfl
theorem l5_put (x : S30) (l : List S57) : ∀ (rest out : List S57), rest.Pairwise (fun a b => a.f0.f0 < b.f0.f0) → l5 x l out false rest = ((putR x rest).map (out ++ ·)).getD l
 | [], out, _ => by simp [l5, putR]
 | y :: ys, out, h => by
  obtain ⟨h1, h2⟩ := List.pairwise_cons.1 h
  simp only [l5, putR]
  by_cases c1 : y.f0.f0 < x.f0
  ·rw [if_neg (by omega), if_neg (by decide), if_neg (by omega), if_pos c1, l5_put x l ys _ h2]
   cases putR x ys <;> simp
  ·rw [if_neg c1]
   by_cases c2 : y.f0.f0 = x.f0
   ·rw [if_pos c2, if_pos c2]
    cases ho : ovI x y.f0
    ·rfl
    ·rw [if_pos rfl, if_neg (by decide), if_pos rfl, l5_done x l ys _ (fun z hz => by have := h1 z hz; omega)]
     simp
   ·rw [if_neg c2, if_neg (by decide), if_pos (by omega), if_neg c2, l5_done x l ys _ (fun z hz => by have := h1 z hz; omega)]
    simp
theorem l5_putI (x : S30) (l : List S57) (h : l.Pairwise (fun a b => a.f0.f0 < b.f0.f0)) : l5 x l [] false l = putI x l := by
 rw [l5_put x l l [] h]
 unfold putI
 cases putR x l <;> rfl
theorem putR_at (x : S30) : ∀ (l : List S57) (m : Nat), m ≤ l.length → (∀ t (h : t < l.length), t < m → l[t].f0.f0 < x.f0) → (∀ t (h : t < l.length), m ≤ t → x.f0 ≤ l[t].f0.f0) →
  (∀ h : m < l.length, (l[m]'h).f0.f0 = x.f0 → putR x l = if ovI x (l[m]'h).f0 = true then some (l.set m (toldI x)) else none) ∧ ((∀ h : m < l.length, (l[m]'h).f0.f0 ≠ x.f0) → putR x l = some (l.take m ++ [toldI x] ++ l.drop m))
 | [], m, h, _, _ => by
  simp at h; subst h
  exact ⟨fun h => by simp at h, fun _ => rfl⟩
 | y :: ys, 0, _, _, q => by
  have := q 0 (by simp) (Nat.le_refl _)
  simp only [List.getElem_cons_zero] at this
  refine ⟨fun h e => ?_, fun h => ?_⟩
  ·simp only [List.getElem_cons_zero] at e ⊢
   simp only [putR, set_cons_zero]
   rw [if_neg (by omega), if_pos e]
  ·have := h (by simp)
   simp only [List.getElem_cons_zero] at this
   simp only [putR]
   rw [if_neg (by omega), if_neg this]; rfl
 | y :: ys, m + 1, h, p, q => by
  have h0 := p 0 (by simp) (by omega)
  simp only [List.getElem_cons_zero] at h0
  obtain ⟨i1, i2⟩ := putR_at x ys m (by simpa using h) (fun t ht htm => p (t + 1) (Nat.succ_lt_succ ht) (by omega)) (fun t ht htm => q (t + 1) (Nat.succ_lt_succ ht) (by omega))
  refine ⟨fun hm e => ?_, fun hn => ?_⟩
  ·have hm' : m < ys.length := by simpa using hm
   have e' : (ys[m]'hm').f0.f0 = x.f0 := e
   simp only [putR, set_cons_succ, getElem_cons_succ]
   rw [if_pos h0, i1 hm' e']
   by_cases ho : ovI x (ys[m]'hm').f0 = true
   ·rw [if_pos ho, if_pos ho]; rfl
   ·rw [if_neg ho, if_neg ho]; rfl
  ·simp only [putR]
   rw [if_pos h0, i2 (fun hm => hn (Nat.succ_lt_succ hm))]; rfl
theorem cOk_iff (l : List S57) : cOk l = true ↔ tOk (l.map (·.f0)) = true ∧ leftB l = true := by
 unfold cOk tOk
 rw [castB_eq, Bool.and_eq_true]
theorem cOk_pw (l : List S57) (h : cOk l = true) : l.Pairwise (fun a b => a.f0.f0 < b.f0.f0) := (List.pairwise_map (f := fun b : S57 => b.f0) (R := fun a b => a.f0 < b.f0)).1 ((tOk_iff _).1 ((cOk_iff l).1 h).1).2
def cput (x : S30) (l : List S57) : List S57 := if cOk l = true then (if fok x = true then putI x l else []) else []
theorem cput_length (x : S30) (l : List S57) : (cput x l).length ≤ l.length + 1 := by
 unfold cput
 split
 ·split
  ·exact putI_length x l
  ·simp
 ·simp
theorem s_cput (x : S30) (l : List S57) (hl : l.length ≤ 10000000) (k : Nat) (hk : 3 * l.length < k) : spec_CastPut.f k l x.f0 x.f1 x.f2 x.f3 = some (cput x l) := by
 simp only [spec_CastPut.f, s_cast l (by omega) k (by omega), s_factOk, s_put5 x l (by omega) k hk, bind_some, length_nil, Nat.zero_add, nil_append, cput]
 by_cases h : cOk l = true
 ·rw [if_pos h, if_pos h]
  show (if fok x = true then _ else _) = _
  by_cases h2 : fok x = true
  ·rw [if_pos h2, if_pos h2, l5_putI x l (cOk_pw l h), if_pos (by have := putI_length x l; omega)]
  ·rw [if_neg h2, if_neg h2]
 ·rw [if_neg h, if_neg h]
theorem i_cput (x : S30) (l : List S57) (hl : l.length ≤ 10000000) (k : Nat) (hk : l.length + 9 < k) : impl_CastPut.f k l x.f0 x.f1 x.f2 x.f3 = some (cput x l) := by
 obtain ⟨k, rfl⟩ := xk (show 1 ≤ k by omega)
 simp only [impl_CastPut.f, i_cast l (by omega) (k + 1) (by omega), i_factOk, bind_some, cput]
 by_cases h : cOk l = true
 ·rw [if_pos h, if_pos h]
  show impl_CastPut.j0 (k + 1) l (!fok x) x.f0 x.f1 x.f2 x.f3 = some (if fok x = true then putI x l else [])
  by_cases h2 : fok x = true
  ·have hlen : (l.map (·.f0)).length = l.length := length_map ..
   obtain ⟨m, b, hf, hm, hp, hq, hb1, hb0⟩ := i_find (l.map (·.f0)) x.f0 (by omega) ((cOk_iff l).1 h).1 k (by omega)
   rw [hlen] at hm
   have hp' : ∀ t (h : t < l.length), t < m → l[t].f0.f0 < x.f0 := fun t ht htm => by have := hp t (by omega) htm; rwa [getElem_map] at this
   have hq' : ∀ t (h : t < l.length), m ≤ t → x.f0 ≤ l[t].f0.f0 := fun t ht htm => by have := hq t (by omega) htm; rwa [getElem_map] at this
   obtain ⟨r1, r2⟩ := putR_at x l m hm hp' hq'
   rw [if_pos h2, h2]
   simp only [impl_CastPut.j0, Bool.not_true, Bool.false_eq_true, if_false, impl_Item_55.f, bind_some, length_nil, Nat.zero_add, nil_append]
   rw [if_pos (by omega)]
   simp only [bind_some, i_facts l (by omega) k (by omega), hf]
   unfold putI
   cases b
   ·rw [if_neg (by decide), r2 (fun hm' => by have := hb0 rfl m (by omega); rwa [getElem_map] at this)]
    simp only [impl_Item_57.f, bind_some, nil_append, Int.toNat_natCast]
    rw [if_pos (by omega), if_pos (by omega), if_neg (by simp), if_pos (by simp only [length_nil, length_take]; omega), if_pos (by simp only [length_take, length_singleton]; omega), if_pos (by simp only [length_append, length_take, length_singleton, length_drop]; omega)]
    by_cases hz : (l.length : Int) = 0
    ·obtain rfl : l = [] := List.eq_nil_of_length_eq_zero (by omega)
     rw [if_pos (by rfl)]
     simp [toldI]
    ·rw [if_neg hz]
     rfl
   ·obtain ⟨hml, he⟩ := hb1 rfl
    rw [hlen] at hml
    rw [getElem_map] at he
    rw [if_pos rfl, if_pos (by omega), if_pos (by omega), rdI l m hml, he, compare_eq _ _ _ _ _ _ _ _ k (by omega), bind_some, r1 hml he, Int.toNat_natCast]
    have hc := cmpF_pos x.f0 x.f1 x.f2 x.f3 l[m].f0.f1 l[m].f0.f2 l[m].f0.f3
    cases ho : ovI x l[m].f0
    ·rw [show overB x.f1 x.f2 x.f3 l[m].f0.f1 l[m].f0.f2 l[m].f0.f3 = false from ho] at hc
     rw [if_neg (of_decide_eq_false hc), if_neg (by decide)]; rfl
    ·rw [show overB x.f1 x.f2 x.f3 l[m].f0.f1 l[m].f0.f2 l[m].f0.f3 = true from ho] at hc
     rw [if_pos (of_decide_eq_true hc), if_pos rfl]; rfl
  ·have h3 : fok x = false := by simpa using h2
   rw [if_neg h2, h3]
   simp only [impl_CastPut.j0, Bool.not_false, if_true]
 ·rw [if_neg h, if_neg h]
  simp only [impl_CastPut.j0, if_true]
theorem fact_ok (b : List Int) (p site : Int) (hR : Rdr b p) (hp : p ≤ 100000) : ∃ n i s g q, Rdr b q ∧ q ≤ p + 5 ∧ ∀ k, 1 ≤ k → spec_l61Fact.f k b p site = some (n, i, s, g, q) := by
 obtain ⟨v1, a1, b1, -, h1⟩ := pick_ok b p 4 hR (by omega)
 have R1 := rdr_next hR
 obtain ⟨v2, a2, b2, -, h2⟩ := pick_ok b (p + 1) 3 R1 (by omega)
 have R2 := rdr_next R1
 obtain ⟨v3, a3, b3, -, h3⟩ := pick_ok b (p + 1 + 1) 12 R2 (by omega)
 have R3 := rdr_next R2
 obtain ⟨v4, a4, b4, -, h4⟩ := pick_ok b (p + 1 + 1 + 1) 3 R3 (by omega)
 have R4 := rdr_next R3
 obtain ⟨v5, a5, b5, -, h5⟩ := pick_ok b (p + 1 + 1 + 1 + 1) 4 R4 (by omega)
 have b4 := b4 (by omega)
 refine ⟨wrap64 (wrap64 (site * 4) + v1), rd [v2, v3, 999] v4, wrap64 (1 + v5), decide (Int.tmod (wrap64 (wrap64 (site * 4) + v1)) 4 < 3), p + 1 + 1 + 1 + 1 + 1, rdr_next R4, by omega, fun k hk => ?_⟩
 simp only [spec_l61Fact.f, h1 k hk, h2 k hk, h3 k hk, h4 k hk, h5 k hk, bind_some, spec_l51Gate.f]
 rw [if_pos a4, if_pos (by simp; omega)]
theorem anyFact_ok (b : List Int) (p : Int) (hR : Rdr b p) (hp : p ≤ 90000) : ∃ n i s g q, Rdr b q ∧ q ≤ p + 8 ∧ ∀ k, 1 ≤ k → spec_l61AnyFact.f k b p = some (n, i, s, g, q) := by
 obtain ⟨v0, a0, b0, -, h0⟩ := pick_ok b p 2 hR (by omega)
 obtain ⟨n, i, s, g, q, R0, hq, hf⟩ := fact_ok b (p + 1) v0 (rdr_next hR) (by omega)
 obtain ⟨v1, a1, b1, -, h1⟩ := pick_ok b q 12 R0 (by omega)
 have R1 := rdr_next R0
 obtain ⟨v2, a2, b2, -, h2⟩ := pick_ok b (q + 1) 2 R1 (by omega)
 have R2 := rdr_next R1
 have b2 := b2 (by omega)
 by_cases c0 : v1 = 0
 ·refine ⟨rd [-1, 8] v2, i, s, g, q + 1 + 1, R2, by omega, fun k hk => ?_⟩
  simp only [spec_l61AnyFact.f, h0 k hk, hf k hk, h1 k hk, h2 k hk, bind_some]
  rw [if_pos c0, if_pos a2, if_pos (by simp; omega)]
 ·by_cases c1 : v1 = 1
  ·refine ⟨n, rd [-1, 1000] v2, s, g, q + 1 + 1, R2, by omega, fun k hk => ?_⟩
   simp only [spec_l61AnyFact.f, h0 k hk, hf k hk, h1 k hk, h2 k hk, bind_some]
   rw [if_neg c0, if_pos c1, if_pos a2, if_pos (by simp; omega)]
  ·by_cases c2 : v1 = 2
   ·refine ⟨n, i, rd [0, 5] v2, g, q + 1 + 1, R2, by omega, fun k hk => ?_⟩
    simp only [spec_l61AnyFact.f, h0 k hk, hf k hk, h1 k hk, h2 k hk, bind_some]
    rw [if_neg c0, if_neg c1, if_pos c2, if_pos a2, if_pos (by simp; omega)]
   ·by_cases c3 : v1 = 3
    ·refine ⟨n, i, s, !g, q + 1, R1, by omega, fun k hk => ?_⟩
     simp only [spec_l61AnyFact.f, h0 k hk, hf k hk, h1 k hk, bind_some]
     rw [if_neg c0, if_neg c1, if_neg c2, if_pos c3]
    ·refine ⟨n, i, s, g, q + 1, R1, by omega, fun k hk => ?_⟩
     simp only [spec_l61AnyFact.f, h0 k hk, hf k hk, h1 k hk, bind_some]
     rw [if_neg c0, if_neg c1, if_neg c2, if_neg c3]
theorem table_loop (b : List Int) (d : Nat) : ∀ (t : List S30) (p : Int), t.length + d ≤ 100 → Rdr b p → p ≤ 80000 - 7 * d → ∃ t' q, t'.length ≤ t.length + d ∧ Rdr b q ∧ q ≤ p + 7 * d ∧ ∀ k, 2 * t.length + 3 * d + 1 < k → spec_l61Table.l0 k (-1) t (d : Int) b p = some (t', q) := by
 induction d with
 | zero =>
  intro t p h1 hR hp
  refine ⟨t, p, by omega, hR, by omega, fun k hk => ?_⟩
  obtain ⟨k, rfl⟩ := xk (show 1 ≤ k by omega)
  simp only [spec_l61Table.l0]; rw [if_neg (by omega)]
 | succ d ih =>
  intro t p h1 hR hp
  obtain ⟨v, a1, b1, -, hv⟩ := pick_ok b p 2 hR (by omega)
  obtain ⟨n, i, s, g, q, Rq, hq, hf⟩ := fact_ok b (p + 1) v (rdr_next hR) (by omega)
  have hl := putL_length t ⟨n, i, s, g⟩
  obtain ⟨t', q', g1, g2, g3, g4⟩ := ih (putL t ⟨n, i, s, g⟩).1 q (by omega) Rq (by omega)
  refine ⟨t', q', by omega, g2, by omega, fun k hk => ?_⟩
  obtain ⟨k, rfl⟩ := xk (show 1 ≤ k by omega)
  have hp := s_put t ⟨n, i, s, g⟩ (by omega) k (by omega)
  dsimp only at hp
  have w1 : wrap64 (((d + 1 : Nat) : Int) - 1) = (d : Int) := by rw [w64 (by omega) (by omega)]; omega
  simp only [spec_l61Table.l0, hv k (by omega), hf k (by omega), hp, bind_some, w1]
  rw [if_pos (by omega), if_pos (by decide)]
  exact g4 k (by omega)
theorem table_ok (b : List Int) (p : Int) (hR : Rdr b p) (hp : p ≤ 70000) : ∃ t q, t.length ≤ 5 ∧ Rdr b q ∧ q ≤ p + 40 ∧ ∀ k, 17 ≤ k → spec_l61Table.f k b p (-1) = some (t, q) := by
 obtain ⟨v, a1, b1, -, hv⟩ := pick_ok b p 6 hR (by omega)
 have b1 := b1 (by omega)
 obtain ⟨t, q, g1, g2, g3, g4⟩ := table_loop b v.toNat [] (p + 1) (by simp; omega) (rdr_next hR) (by omega)
 refine ⟨t, q, by simp at g1; omega, g2, by omega, fun k hk => ?_⟩
 simp only [spec_l61Table.f, hv k (by omega), bind_some]
 have := g4 k (by simp; omega)
 rwa [Int.toNat_of_nonneg a1] at this
theorem items_loop (b : List Int) (t : List S30) (ht : t.length ≤ 100) (d : Nat) : ∀ (n : Nat) (acc : List S57) (p : Int), n ≤ t.length → t.length - n = d → acc.length = n → Rdr b p → p ≤ 80000 - d → ∃ r q, r.length = t.length ∧ Rdr b q ∧ q ≤ p + d ∧ ∀ k, d < k → spec_l61Items.l0 k acc t (n : Int) b p = some (r, q) := by
 induction d with
 | zero =>
  intro n acc p h0 h1 h2 hR hp
  refine ⟨acc, p, by omega, hR, by omega, fun k hk => ?_⟩
  obtain ⟨k, rfl⟩ := xk (show 1 ≤ k by omega)
  simp only [spec_l61Items.l0]; rw [if_neg (by omega)]
 | succ d ih =>
  intro n acc p h0 h1 h2 hR hp
  have hn : n < t.length := by omega
  obtain ⟨v, a1, b1, -, hv⟩ := pick_ok b p 4 hR (by omega)
  have w1 := wq n (by omega)
  obtain ⟨r, q, g1, g2, g3, g4⟩ := ih (n + 1) (acc ++ [⟨⟨(rd_T30 t (n : Int)).f0, (rd_T30 t (n : Int)).f1, (rd_T30 t (n : Int)).f2, (rd_T30 t (n : Int)).f3⟩, wrap64 (1 + v)⟩]) (p + 1) (by omega) (by omega) (by rw [length_append, length_singleton]; omega) (rdr_next hR) (by omega)
  refine ⟨r, q, g1, g2, by omega, fun k hk => ?_⟩
  obtain ⟨k, rfl⟩ := xk (show 1 ≤ k by omega)
  simp only [spec_l61Items.l0, hv k (by omega), bind_some, w1]
  rw [if_pos (by omega), if_pos (by omega), if_pos (by omega)]
  exact g4 k (by omega)
theorem items_ok (b : List Int) (p : Int) (hR : Rdr b p) (hp : p ≤ 60000) : ∃ t q, t.length ≤ 5 ∧ Rdr b q ∧ q ≤ p + 50 ∧ ∀ k, 17 ≤ k → spec_l61Items.f k b p (-1) = some (t, q) := by
 obtain ⟨t, q, h1, Rq, hq, hf⟩ := table_ok b p hR (by omega)
 obtain ⟨r, q', g1, g2, g3, g4⟩ := items_loop b t (by omega) t.length 0 [] q (by omega) (by omega) rfl Rq (by omega)
 refine ⟨r, q', by omega, g2, by omega, fun k hk => ?_⟩
 simp only [spec_l61Items.f, hf k hk, bind_some]
 exact g4 k (by omega)
theorem anyItems_ok (b : List Int) (p : Int) (hR : Rdr b p) (hp : p ≤ 50000) : ∃ t q, t.length ≤ 6 ∧ Rdr b q ∧ q ≤ p + 80 ∧ ∀ k, 18 ≤ k → spec_l61AnyItems.f k b p = some (t, q) := by
 obtain ⟨t, q, h1, Rq, hq, hf⟩ := items_ok b p hR (by omega)
 by_cases h0 : (t.length : Int) > 0
 ·obtain ⟨v, a1, b1, -, hv⟩ := pick_ok b q 10 Rq (by omega)
  have R1 := rdr_next Rq
  cases hc : (v == 0)
  ·refine ⟨t, q + 1, by omega, R1, by omega, fun k hk => ?_⟩
   obtain ⟨k, rfl⟩ := xk (show 1 ≤ k by omega)
   simp only [spec_l61AnyItems.f, hf (k + 1) (by omega), hv (k + 1) (by omega), bind_some, hc, spec_l61AnyItems.j0]
   rw [if_pos h0, if_neg (by decide)]
  ·obtain ⟨i, a2, b2, -, hi⟩ := pick_ok b (q + 1) (t.length : Int) R1 (by omega)
   have b2 := b2 h0
   have R2 := rdr_next R1
   obtain ⟨c, a3, b3, -, hcc⟩ := pick_ok b (q + 1 + 1) 3 R2 (by omega)
   have R3 := rdr_next R2
   obtain ⟨u, a4, b4, -, hu⟩ := pick_ok b (q + 1 + 1 + 1) 2 R3 (by omega)
   have b4 := b4 (by omega)
   have R4 := rdr_next R3
   obtain ⟨n, j, s, g, q', Rq', hq', hff⟩ := anyFact_ok b (q + 1 + 1 + 1) R3 (by omega)
   by_cases e0 : c = 0
   ·refine ⟨t.set i.toNat ⟨⟨(rd_T57 t i).f0.f0, (rd_T57 t i).f0.f1, (rd_T57 t i).f0.f2, (rd_T57 t i).f0.f3⟩, rd [0, 5] u⟩, q + 1 + 1 + 1 + 1, by simp only [length_set]; omega, R4, by omega, fun k hk => ?_⟩
    obtain ⟨k, rfl⟩ := xk (show 1 ≤ k by omega)
    simp only [spec_l61AnyItems.f, hf (k + 1) (by omega), hv (k + 1) (by omega), bind_some, hc, spec_l61AnyItems.j0, hi k (by omega), hcc k (by omega), hu k (by omega)]
    rw [if_pos h0, if_pos trivial, if_pos e0, if_pos a4, if_pos (by simp; omega), if_pos a2, if_pos b2]
   ·by_cases e1 : c = 1
    ·refine ⟨t.set i.toNat ⟨⟨n, j, s, g⟩, (rd_T57 t i).f1⟩, q', by simp only [length_set]; omega, Rq', by omega, fun k hk => ?_⟩
     obtain ⟨k, rfl⟩ := xk (show 1 ≤ k by omega)
     simp only [spec_l61AnyItems.f, hf (k + 1) (by omega), hv (k + 1) (by omega), bind_some, hc, spec_l61AnyItems.j0, hi k (by omega), hcc k (by omega), hff k (by omega)]
     rw [if_pos h0, if_pos trivial, if_neg e0, if_pos e1, if_pos a2, if_pos b2]
    ·refine ⟨t ++ [⟨⟨(rd_T57 t i).f0.f0, (rd_T57 t i).f0.f1, (rd_T57 t i).f0.f2, (rd_T57 t i).f0.f3⟩, (rd_T57 t i).f1⟩], q + 1 + 1 + 1, by simp only [length_append, length_singleton]; omega, R3, by omega, fun k hk => ?_⟩
     obtain ⟨k, rfl⟩ := xk (show 1 ≤ k by omega)
     simp only [spec_l61AnyItems.f, hf (k + 1) (by omega), hv (k + 1) (by omega), bind_some, hc, spec_l61AnyItems.j0, hi k (by omega), hcc k (by omega)]
     rw [if_pos h0, if_pos trivial, if_neg e0, if_neg e1, if_pos a2, if_pos b2, if_pos (by omega)]
 ·refine ⟨t, q, by omega, Rq, by omega, fun k hk => ?_⟩
  obtain ⟨k, rfl⟩ := xk (show 1 ≤ k by omega)
  simp only [spec_l61AnyItems.f, hf (k + 1) (by omega), bind_some, spec_l61AnyItems.j0]
  rw [if_neg h0, if_neg (by decide)]
theorem lhI_loop (l : List S57) (hl : l.length ≤ 1000000000000) (d : Nat) : ∀ (k n : Nat), n ≤ l.length → l.length - n = d → d < k → laws_lhItems.l0 k l l (n : Int) = some true := by
 induction d with
 | zero =>
  intro k n h0 h1 h2
  obtain ⟨k, rfl⟩ := xk (show 1 ≤ k by omega)
  simp only [laws_lhItems.l0]; rw [if_neg (by omega)]
 | succ d ih =>
  intro k n h0 h1 h2
  obtain ⟨k, rfl⟩ := xk (show 1 ≤ k by omega)
  have ih' := ih k (n + 1) (by omega) (by omega) (by omega)
  have w1 := wq n (by omega)
  simp only [laws_lhItems.l0, beq_self_eq_true, Bool.not_true, Bool.or_self, Bool.false_eq_true, if_false, w1]
  rw [if_pos (by omega), if_pos (by omega), if_pos (by omega)]
  exact ih'
theorem lhI (l : List S57) (hl : l.length ≤ 1000000000000) (k : Nat) (hk : l.length < k) : laws_lhItems.f k l l = some true := by
 simp only [laws_lhItems.f, if_true]
 exact lhI_loop l hl l.length k 0 (by omega) (by omega) hk

theorem i_fover (n i s : Int) (f : Bool) (n' i' s' : Int) (g : Bool) (k : Nat) (hk : 8 ≤ k) (ho : n = n' → overB i s f i' s' g = false) : impl_FactOver.f k n i s f n' i' s' g = some false := by
 simp only [impl_FactOver.f, i_factOk, compare_eq _ _ _ _ _ _ _ _ k hk, bind_some]
 cases factOk n i s
 ·rfl
 ·cases factOk n' i' s'
  ·rfl
  ·by_cases h : n = n'
   ·subst h
    rw [if_pos rfl, if_pos rfl, if_pos rfl, cmpF_pos, ho rfl]
   ·rw [if_pos rfl, if_pos rfl, if_neg h]
theorem over_self (i s : Int) (f : Bool) : overB i s f i s f = false := by
 unfold overB
 rw [if_pos rfl, if_pos rfl]
 cases f <;> rfl
theorem putR_ok (x : S30) (hf : fok x = true) : ∀ (l r : List S57) (p : Int), castB p l = true → p < x.f0 → putR x l = some r → castB p r = true
 | [], r, p, _, hp, h => by
  obtain rfl := some.inj h
  show (fok x && (inB 4 1 4 && (decide (p < x.f0) && true))) = true
  rw [hf, decide_eq_true hp]; rfl
 | y :: ys, r, p, hc, hp, h => by
  simp only [castB, Bool.and_eq_true, decide_eq_true_eq] at hc
  obtain ⟨c1, c2, c3, c4⟩ := hc
  simp only [putR] at h
  by_cases h1 : y.f0.f0 < x.f0
  ·rw [if_pos h1] at h
   obtain ⟨q, hq, rfl⟩ := map_eq_some_iff.1 h
   have := putR_ok x hf ys q _ c4 h1 hq
   simp only [castB, c1, c2, decide_eq_true c3, this, Bool.and_self]
  ·rw [if_neg h1] at h
   by_cases h2 : y.f0.f0 = x.f0
   ·rw [if_pos h2] at h
    cases ho : ovI x y.f0
    ·rw [ho] at h; cases h
    ·rw [ho] at h
     obtain rfl := some.inj h
     show (fok x && (inB 4 1 4 && (decide (p < x.f0) && castB x.f0 ys))) = true
     rw [hf, decide_eq_true hp, ← h2, c4]; rfl
   ·rw [if_neg h2] at h
    obtain rfl := some.inj h
    show (fok x && (inB 4 1 4 && (decide (p < x.f0) && (fok y.f0 && (inB y.f1 1 4 && (decide (x.f0 < y.f0.f0) && castB y.f0.f0 ys)))))) = true
    rw [hf, decide_eq_true hp, c1, c2, decide_eq_true (show x.f0 < y.f0.f0 by omega), c4]; rfl
theorem putR_told (x : S30) : ∀ (l r : List S57), putR x l = some r → toldI x ∈ r
 | [], r, h => by
  obtain rfl := some.inj h
  exact mem_cons_self
 | y :: ys, r, h => by
  simp only [putR] at h
  by_cases h1 : y.f0.f0 < x.f0
  ·rw [if_pos h1] at h
   obtain ⟨q, hq, rfl⟩ := map_eq_some_iff.1 h
   exact mem_cons_of_mem _ (putR_told x ys q hq)
  ·rw [if_neg h1] at h
   by_cases h2 : y.f0.f0 = x.f0
   ·rw [if_pos h2] at h
    cases ho : ovI x y.f0
    ·rw [ho] at h; cases h
    ·rw [ho] at h
     obtain rfl := some.inj h
     exact mem_cons_self
   ·rw [if_neg h2] at h
    obtain rfl := some.inj h
    exact mem_cons_self
theorem putR_none (x : S30) : ∀ (l : List S57), putR x l = none → ∃ y ∈ l, y.f0.f0 = x.f0 ∧ ovI x y.f0 = false
 | [], h => by cases h
 | y :: ys, h => by
  simp only [putR] at h
  by_cases h1 : y.f0.f0 < x.f0
  ·rw [if_pos h1] at h
   obtain ⟨z, hz, e⟩ := putR_none x ys (map_eq_none_iff.1 h)
   exact ⟨z, mem_cons_of_mem _ hz, e⟩
  ·rw [if_neg h1] at h
   by_cases h2 : y.f0.f0 = x.f0
   ·rw [if_pos h2] at h
    cases ho : ovI x y.f0
    ·exact ⟨y, mem_cons_self, h2, ho⟩
    ·rw [ho] at h; cases h
   ·rw [if_neg h2] at h
    cases h
theorem putI_new (x : S30) (l : List S57) (hf : fok x = true) (hc : cOk l = true) : cOk (putI x l) = true ∧ ∃ y ∈ putI x l, y.f0.f0 = x.f0 ∧ ovI x y.f0 = false ∧ (l.length < (putI x l).length → y.f1 = 4) := by
 unfold putI
 cases h : putR x l with
 | none =>
  obtain ⟨y, hy, e1, e2⟩ := putR_none x l h
  exact ⟨hc, y, hy, e1, e2, fun h => absurd h (Nat.lt_irrefl _)⟩
 | some r =>
  obtain ⟨f0, -⟩ := fok_node hf
  exact ⟨putR_ok x hf l r _ hc (by omega) h, toldI x, putR_told x l r h, rfl, over_self _ _ _, fun _ => rfl⟩
theorem wnx (n : Nat) (h : n ≤ 1000) : wrap64 ((n : Int) + 1) = ((n + 1 : Nat) : Int) := by rw [w64 (by omega) (by omega)]; omega
def NewAt (L X : List S57) (x : S30) (m : Nat) : Prop := ∀ n (hn : n < X.length), (n = m → X[n].f0.f0 = x.f0 ∧ ovI x X[n].f0 = false ∧ (L.length < X.length → X[n].f1 = 4)) ∧ (n ≠ m → X[n].f0.f0 ≠ x.f0)
theorem new_at (L X : List S57) (x : S30) (m : Nat) (hm : m < X.length) (h0 : X.Pairwise (fun a b => a.f0.f0 < b.f0.f0)) (h1 : X[m].f0.f0 = x.f0) (h2 : ovI x X[m].f0 = false) (h3 : L.length < X.length → X[m].f1 = 4) : NewAt L X x m := by
 intro n hn
 refine ⟨fun e => by subst e; exact ⟨h1, h2, h3⟩, fun e => ?_⟩
 rw [← h1]
 rcases Nat.lt_or_gt_of_ne e with h | h
 ·exact Int.ne_of_lt ((pairwise_iff_getElem.1 h0) n m hn hm h)
 ·exact (Int.ne_of_lt ((pairwise_iff_getElem.1 h0) m n hm hn h)).symm
theorem new_loop (L X : List S57) (x : S30) (m : Nat) (hm : m < X.length) (hX : X.length ≤ 1000) (hL : L.length ≤ 1000) (H : NewAt L X x m) (hc : cOk X = true) (d : Nat) : ∀ (k n : Nat) (c : Int), n ≤ X.length → X.length - n = d → X.length + 20 + 2 * d < k → c = (if m < n then 1 else 0) → laws_FnCastNew.l0 k L X c (n : Int) x.f0 x.f1 x.f2 x.f3 = some true := by
 induction d with
 | zero =>
  intro k n c g0 g1 g2 g3
  obtain ⟨k, rfl⟩ := xk (show 1 ≤ k by omega)
  have a1 : ¬ (n : Int) < (X.length : Int) := by omega
  rw [if_pos (by omega)] at g3
  subst g3
  have a2 := i_cast X (by omega) k (by omega)
  unfold laws_FnCastNew.l0
  rw [if_neg a1, if_pos rfl, a2, bind_some, hc]
 | succ d ih =>
  intro k n c g0 g1 g2 g3
  obtain ⟨k, rfl⟩ := xk (show 2 ≤ k by omega)
  have hn : n < X.length := by omega
  have a1 : (n : Int) < (X.length : Int) := by omega
  have a2 : (0 : Int) ≤ (n : Int) := by omega
  have a3 : 8 ≤ k + 1 := by omega
  have a4 := ih k (n + 1) 1 (by omega) (by omega) (by omega)
  have a5 := ih (k + 1) (n + 1) c (by omega) (by omega) (by omega)
  have w1 := wnx n (by omega)
  obtain ⟨H1, H2⟩ := H n hn
  unfold laws_FnCastNew.l0
  rw [if_pos a1, if_pos a2, rdI X n hn]
  by_cases e : n = m
  ·obtain ⟨h1, h2, h3⟩ := H1 e
   rw [if_neg (by rw [e]; exact Nat.lt_irrefl m)] at g3
   have a6 := a4 (by rw [if_pos (by rw [e]; exact Nat.lt_succ_self m)])
   subst g3
   have w2 : wrap64 (0 + 1) = 1 := w64 (by decide) (by decide)
   have j3 : laws_FnCastNew.j3 (k + 1) L X 1 (n : Int) false x.f0 x.f1 x.f2 x.f3 = some true := by
    simp only [laws_FnCastNew.j3, Bool.false_eq_true, if_false, w1]
    exact a6
   rw [if_pos h1, i_fover _ _ _ _ _ _ _ _ (k + 1) a3 (fun _ => h2), bind_some, if_neg (by decide), w2, j3]
   by_cases hl : L.length < X.length
   ·rw [h3 hl, if_pos (show (X.length : Int) > (L.length : Int) from Int.ofNat_lt.2 hl), show ((4 : Int) != 4) = false from rfl, j3, ite_self]
   ·rw [if_neg (show ¬ (X.length : Int) > (L.length : Int) from fun h => hl (Int.ofNat_lt.1 h)), ite_self]
  ·have g4 : c = if m < n + 1 then 1 else 0 := by
    rw [g3]
    by_cases h : m < n
    ·rw [if_pos h, if_pos (Nat.lt_succ_of_lt h)]
    ·rw [if_neg h, if_neg (fun h' => (Nat.lt_succ_iff_lt_or_eq.1 h').elim h (fun h'' => e h''.symm))]
   rw [if_neg (H2 e), w1]
   exact a5 g4
theorem FnCastNew : laws_FnCastNew.Pure := by
 intro l0 hl1 hl2 hl3
 obtain ⟨b, hR, ho⟩ := open_ok l0 hl3
 obtain ⟨L, q, ht, Rq, hq, hft⟩ := anyItems_ok b 0 hR (by omega)
 obtain ⟨n, i, s, g, q', Rq', hq', hff⟩ := anyFact_ok b q Rq (by omega)
 generalize hx : (⟨n, i, s, g⟩ : S30) = x
 obtain rfl : n = x.f0 := by rw [← hx]
 obtain rfl : i = x.f1 := by rw [← hx]
 obtain rfl : s = x.f2 := by rw [← hx]
 obtain rfl : g = x.f3 := by rw [← hx]
 refine ⟨4000 + 2, ?_⟩
 have hT := cput_length x L
 generalize hK : (4000 : Nat) = K
 simp only [laws_FnCastNew.f]
 by_cases h0 : (l0.length : Int) > 1048576
 ·rw [if_pos h0]
 ·rw [if_neg h0]
  simp only [spec_DrawCastPut.f, ho, hft (K + 2) (by omega), hff (K + 2) (by omega), bind_some, s_cput x L (by omega) (K + 2) (by omega), i_cput x L (by omega) (K + 2) (by omega), lhI (cput x L) (by omega) (K + 2) (by omega), s_cast L (by omega) (K + 2) (by omega), i_cast L (by omega) (K + 2) (by omega), bne_self_eq_false, if_true]
  simp only [laws_FnCastNew.j0, Bool.false_eq_true, if_false, s_cast L (by omega) (K + 1) (by omega), s_factOk, bind_some]
  show (if cOk L = true then laws_FnCastNew.j1 (K + 1) L (cput x L) (!fok x) x.f0 x.f1 x.f2 x.f3 else _) = _
  by_cases c1 : cOk L = true
  ·rw [if_pos c1]
   by_cases c2 : fok x = true
   ·rw [c2]
    simp only [laws_FnCastNew.j1, Bool.not_true, Bool.false_eq_true, if_false]
    have e : cput x L = putI x L := by unfold cput; rw [if_pos c1, if_pos c2]
    rw [e] at hT ⊢
    have b1 : (putI x L).length ≤ 1000 := by omega
    have b2 : L.length ≤ 1000 := by omega
    have b3 : (putI x L).length + 20 + 2 * (putI x L).length < K := by omega
    obtain ⟨d1, y, hy, d2, d3, d4⟩ := putI_new x L c2 c1
    obtain ⟨m, hm, rfl⟩ := mem_iff_getElem.1 hy
    exact new_loop L (putI x L) x m hm b1 b2 (new_at L _ x m hm (cOk_pw _ d1) d2 d3 d4) d1 (putI x L).length K 0 0 (Nat.zero_le _) rfl b3 (by rw [if_neg (Nat.not_lt_zero m)])
   ·have c3 : fok x = false := by simpa using c2
    have e : cput x L = [] := by unfold cput; rw [if_pos c1, if_neg c2]
    rw [c3, e]
    simp only [laws_FnCastNew.j1, Bool.not_false, if_true]
    rfl
  ·rw [if_neg c1]
   have e : cput x L = [] := by unfold cput; rw [if_neg c1]
   rw [e]
   simp only [laws_FnCastNew.j1, if_true]
   rfl
end Go.Proofs.Ytjaihhgkcdnhnaa.Pure
