/- Each fact is told just as often as it is to be, and then no more: drawn items, taken forty times, so many at a time, are each told as often as is left of it, and none is left; and the program answers as the reference. Conditions: the bytes' number is within the row's reach. -/
import Derived.Test.YtbibieonaceolaaPFnCastAllx
set_option linter.unusedVariables false
set_option linter.unusedSimpArgs false
namespace Go.Proofs.Ytbibieonaceolaa.Pure
open Go.RowKit Go.Proofs.Ytbibieonaceolaa.PFnCastAll Go.Proofs.YtbibieonaceolaaW.PrintWords Go.Proofs.YtbibieonaceolaaW.PrintLast Go.Proofs.YtbibieonaceolaaW.PrintMore
theorem w64 {n : Int} (h : -9223372036854775808 ≤ n) (h' : n ≤ 9223372036854775807) : wrap64 n = n := by unfold wrap64; omega
theorem lt_ge (a b : Int) : a < b ∨ b ≤ a := by omega
/-! drawing -/
theorem i64_xor (a b : Int) (h1 : 0 ≤ a) (h2 : a < 9223372036854775808) (h3 : 0 ≤ b) (h4 : b < 9223372036854775808) : Go.bits .xor .i64 a b = ((a.toNat ^^^ b.toNat : Nat) : Int) := by
 obtain ⟨a, rfl⟩ := Int.eq_ofNat_of_zero_le h1
 obtain ⟨b, rfl⟩ := Int.eq_ofNat_of_zero_le h3
 have ha' : a % 2 ^ IntKind.i64.bits = a := Nat.mod_eq_of_lt (by show a < 2 ^ 64; omega)
 have hb' : b % 2 ^ IntKind.i64.bits = b := Nat.mod_eq_of_lt (by show b < 2 ^ 64; omega)
 have hx : a ^^^ b < 2 ^ 63 := Nat.xor_lt_two_pow (by omega) (by omega)
 simp only [Go.bits, BitVec.ofInt_natCast, BitVec.toNat_xor, BitVec.toNat_ofNat, ha', hb', Int.toNat_natCast]
 rw [IntKind.wrap_i64]
 omega
/-- The reader's bytes and its place. -/
def Rdr (b : List Int) (p : Int) : Prop := (∀ x ∈ b, 0 ≤ x ∧ x ≤ 255) ∧ b.length ≤ 2000 ∧ 0 ≤ p
theorem rd_byte {b : List Int} (h : ∀ x ∈ b, 0 ≤ x ∧ x ≤ 255) (i : Int) : 0 ≤ rd b i ∧ rd b i ≤ 255 := by
 unfold rd
 rw [List.getD_eq_getElem?_getD]
 rcases hq : b[i.toNat]? with _ | x
 ·simp
 ·exact h x (List.mem_of_getElem? hq)
theorem tmod_bd {a n : Int} (ha : 0 ≤ a) (hn : 0 < n) : 0 ≤ Int.tmod a n ∧ Int.tmod a n < n := ⟨Int.tmod_nonneg _ ha, Int.tmod_lt_of_pos _ hn⟩
theorem pick_ok (b : List Int) (p n : Int) (hR : Rdr b p) (hp : p ≤ 1000000) : ∃ v, 0 ≤ v ∧ (0 < n → v < n) ∧ (n < 1 → v = 0) ∧ ∀ k, 1 ≤ k → spec_l1Rd_pick.f k b p n = some (v, p + 1) := by
 obtain ⟨hb, hl, h0⟩ := hR
 have e1 : wrap64 (p + 1) = p + 1 := w64 (by omega) (by omega)
 by_cases hn : n < 1
 ·refine ⟨0, by omega, by omega, fun _ => rfl, fun k hk => ?_⟩
  obtain ⟨k, rfl⟩ : ∃ m, k = m + 1 := ⟨k - 1, by omega⟩
  simp only [spec_l1Rd_pick.f, spec_l1Rd_pick.j0]
  rw [if_pos hn, if_pos trivial, e1]
 ·have e2 : wrap64 (p + 1 - 1) = p := by rw [w64 (by omega) (by omega)]; omega
  by_cases hz : b.length = 0
  ·refine ⟨0, by omega, by omega, fun _ => rfl, fun k hk => ?_⟩
   obtain ⟨k, rfl⟩ : ∃ m, k = m + 1 := ⟨k - 1, by omega⟩
   simp only [spec_l1Rd_pick.f, spec_l1Rd_pick.j0]
   rw [if_neg hn, if_pos (beq_iff_eq.mpr (by omega)), e1]
  ·have hz' : ((b.length : Int) == 0) = false := beq_eq_false_iff_ne.mpr (by omega)
   by_cases hlt : p < (b.length : Int)
   ·obtain ⟨r1, r2⟩ := rd_byte hb p
    obtain ⟨m1, m2⟩ := tmod_bd r1 (show 0 < n by omega)
    refine ⟨Int.tmod (rd b p) n, m1, fun _ => m2, by omega, fun k hk => ?_⟩
    obtain ⟨k, rfl⟩ : ∃ m, k = m + 1 := ⟨k - 1, by omega⟩
    simp only [spec_l1Rd_pick.f, spec_l1Rd_pick.j0, hz', e1, e2]
    rw [if_neg hn, if_neg (by decide), if_pos hlt, if_pos h0, if_neg (by omega), w64 (n := rd b p) (by omega) (by omega)]
   ·have e3 : wrap64 (p * 7) = p * 7 := w64 (by omega) (by omega)
    have e4 : wrap64 (p * 7 + 3) = p * 7 + 3 := w64 (by omega) (by omega)
    have e5 : wrap64 (p * 29) = p * 29 := w64 (by omega) (by omega)
    obtain ⟨i, hi⟩ : ∃ i, i = Int.tmod p (b.length : Int) := ⟨_, rfl⟩
    obtain ⟨j, hj⟩ : ∃ j, j = Int.tmod (p * 7 + 3) (b.length : Int) := ⟨_, rfl⟩
    obtain ⟨i1, i2⟩ := tmod_bd h0 (show 0 < (b.length : Int) by omega)
    obtain ⟨j1, j2⟩ := tmod_bd (show 0 ≤ p * 7 + 3 by omega) (show 0 < (b.length : Int) by omega)
    rw [← hi] at i1 i2
    rw [← hj] at j1 j2
    obtain ⟨a1, a2⟩ := rd_byte hb i
    obtain ⟨c1, c2⟩ := rd_byte hb j
    obtain ⟨q, hq⟩ : ∃ q, q = Int.tdiv p (b.length : Int) := ⟨_, rfl⟩
    have q1 : 0 ≤ q ∧ q ≤ p := by
     rw [hq, Int.tdiv_eq_ediv_of_nonneg h0]
     exact ⟨Int.ediv_nonneg h0 (by omega), Int.ediv_le_self _ h0⟩
    have f1 : wrap64 (rd b i) = rd b i := w64 (by omega) (by omega)
    have f2 : wrap64 (rd b j) = rd b j := w64 (by omega) (by omega)
    have f3 : wrap64 (rd b i * 131) = rd b i * 131 := w64 (by omega) (by omega)
    have f4 : wrap64 (rd b j * 1117) = rd b j * 1117 := w64 (by omega) (by omega)
    have f5 : wrap64 q = q := w64 (by omega) (by omega)
    have f6 : wrap64 (q * 53) = q * 53 := w64 (by omega) (by omega)
    have f7 : wrap64 (rd b i * 131 + rd b j * 1117) = rd b i * 131 + rd b j * 1117 := w64 (by omega) (by omega)
    have f8 : wrap64 (rd b i * 131 + rd b j * 1117 + p * 29) = rd b i * 131 + rd b j * 1117 + p * 29 := w64 (by omega) (by omega)
    obtain ⟨x, hx⟩ : ∃ x, x = rd b i * 131 + rd b j * 1117 + p * 29 + q * 53 := ⟨_, rfl⟩
    have f9 : wrap64 (rd b i * 131 + rd b j * 1117 + p * 29 + q * 53) = x := by rw [hx]; exact w64 (by omega) (by omega)
    have x1 : 0 ≤ x := by omega
    have x2 : x ≤ 100000000 := by omega
    have f10 : wrap64 (Int.tdiv x 64) = x / 64 := by rw [Int.tdiv_eq_ediv_of_nonneg x1]; exact w64 (by omega) (by omega)
    have f11 := i64_xor x (x / 64) x1 (by omega) (by omega) (by omega)
    obtain ⟨m1, m2⟩ := tmod_bd (Int.natCast_nonneg (x.toNat ^^^ (x / 64).toNat)) (show 0 < n by omega)
    refine ⟨Int.tmod ((x.toNat ^^^ (x / 64).toNat : Nat) : Int) n, m1, fun _ => m2, by omega, fun k hk => ?_⟩
    obtain ⟨k, rfl⟩ : ∃ m, k = m + 1 := ⟨k - 1, by omega⟩
    simp only [spec_l1Rd_pick.f, spec_l1Rd_pick.j0, hz', e1, e2, e3, e4, e5, ← hi, ← hj, ← hq, f1, f2, f3, f4, f5, f6, f7, f8, f9, f10, f11]
    rw [if_neg hn, if_neg (by decide), if_neg hlt, if_neg (by omega), if_pos i1, if_pos i2, if_pos j1, if_pos j2, if_neg (by omega)]
theorem rdr_next {b : List Int} {p : Int} (h : Rdr b p) : Rdr b (p + 1) := ⟨h.1, h.2.1, by have := h.2.2; omega⟩
theorem open_ok (l : List Int) (hl : ∀ x ∈ l, (Lit.int .u8 x).wf = true) : ∃ b, Rdr b 0 ∧ spec_l1Open.f l = some (b, 0) := by
 have hw : ∀ x ∈ l, 0 ≤ x ∧ x ≤ 255 := by
  intro x hx
  have := hl x hx
  have h2 := (Bool.and_eq_true _ _).mp this
  have h3 := of_decide_eq_true h2.1
  have h4 := of_decide_eq_true h2.2
  exact ⟨h3, h4⟩
 simp only [spec_l1Open.f]
 by_cases h : (l.length : Int) > 2000
 ·rw [if_pos h, if_pos (by omega)]
  exact ⟨l.take 2000, ⟨fun x hx => hw x (List.mem_of_mem_take hx), by rw [List.length_take]; omega, by omega⟩, rfl⟩
 ·rw [if_neg h]
  exact ⟨l, ⟨hw, by omega, by omega⟩, rfl⟩
/-! ranges -/
theorem s_in (a l h : Int) : spec_l1In.f a l h = some (decide (l ≤ a) && decide (a ≤ h)) := by
 simp only [spec_l1In.f]
 by_cases h1 : a ≥ l
 ·rw [if_pos h1, decide_eq_true (show l ≤ a from h1)]; rfl
 ·rw [if_neg h1, decide_eq_false (show ¬ l ≤ a from h1)]; rfl
theorem i_in (a l h : Int) : impl_in.f a l h = some (decide (l ≤ a) && decide (a ≤ h)) := by
 simp only [impl_in.f]
 by_cases h1 : a ≥ l
 ·rw [if_pos h1, decide_eq_true (show l ≤ a from h1)]; rfl
 ·rw [if_neg h1, decide_eq_false (show ¬ l ≤ a from h1)]; rfl
theorem if_some {α : Type} (c : Bool) (x : α) (y z : Bool) : (if c = true then some y else some z : Option Bool) = some (if c = true then y else z) := by cases c <;> rfl
def inB (a l h : Int) : Bool := decide (l ≤ a) && decide (a ≤ h)
def factOk (n i s : Int) : Bool := inB n 0 7 && (inB i 0 999 && inB s 1 4)
theorem s_factOk (a b c : Int) (d : Bool) : spec_FactOk.f a b c d = some (factOk a b c) := by
 simp only [spec_FactOk.f, s_in, Option.bind_some, factOk, inB]
 cases (decide (0 ≤ a) && decide (a ≤ 7)) <;> cases (decide (0 ≤ b) && decide (b ≤ 999)) <;> simp
theorem i_factOk (a b c : Int) (d : Bool) : impl_FactOk.f a b c d = some (factOk a b c) := by
 simp only [impl_FactOk.f, impl_isNode.f, i_in, Option.bind_some, factOk, inB]
 cases (decide (0 ≤ a) && decide (a ≤ 7)) <;> cases (decide (0 ≤ b) && decide (b ≤ 999)) <;> simp
/-! tables: S40 a fact of the program's, S45 the statement's own -/
def fok (x : S40) : Bool := factOk x.f0 x.f1 x.f2
def tabB : Int → List S40 → Bool
 | _, [] => true
 | p, x :: xs => fok x && (decide (p < x.f0) && tabB x.f0 xs)
def prevOf (l : List S40) (n : Nat) : Int := if n = 0 then -1 else (rd_T40 l ((n - 1 : Nat) : Int)).f0
theorem fok_node {x : S40} (h : fok x = true) : 0 ≤ x.f0 ∧ x.f0 ≤ 7 ∧ 0 ≤ x.f1 ∧ x.f1 ≤ 999 ∧ 1 ≤ x.f2 ∧ x.f2 ≤ 4 := by
 simp only [fok, factOk, inB, Bool.and_eq_true, decide_eq_true_eq] at h
 omega
theorem rdF (l : List S40) (n : Nat) (h : n < l.length) : rd_T40 l (n : Int) = l[n] := by
 unfold rd_T40
 rw [Int.toNat_natCast, List.getD_eq_getElem?_getD, List.getElem?_eq_getElem h]; rfl
theorem tabB_step (l : List S40) (n : Nat) (h : n < l.length) : tabB (prevOf l n) (l.drop n) = (fok l[n] && (decide (prevOf l n < l[n].f0) && tabB (prevOf l (n + 1)) (l.drop (n + 1)))) := by
 rw [List.drop_eq_getElem_cons h]
 have e : prevOf l (n + 1) = l[n].f0 := by unfold prevOf; rw [if_neg (by omega), Nat.add_sub_cancel, rdF l n h]
 rw [e]; rfl
theorem i_tab_loop (l : List S40) (hl : l.length ≤ 1000000000000) (d : Nat) : ∀ (k n : Nat), n ≤ l.length → l.length - n = d → 2 * d < k → impl_TableOk.l0 k l l (l.length : Int) (n : Int) = some (tabB (prevOf l n) (l.drop n)) := by
 induction d with
 | zero =>
  intro k n h0 h1 h2
  obtain ⟨k, rfl⟩ : ∃ m, k = m + 1 := ⟨k - 1, by omega⟩
  obtain rfl : n = l.length := by omega
  simp only [impl_TableOk.l0]; rw [if_neg (by omega), List.drop_length]; rfl
 | succ d ih =>
  intro k n h0 h1 h2
  obtain ⟨k, rfl⟩ : ∃ m, k = m + 2 := ⟨k - 2, by omega⟩
  have hn : n < l.length := by omega
  have ih' := ih k (n + 1) (by omega) (by omega) (by omega)
  have w1 : wrap64 ((n : Int) + 1) = ((n + 1 : Nat) : Int) := by rw [w64 (by omega) (by omega)]; omega
  have j1 : ∀ c : Bool, impl_TableOk.j1 (k + 1) l l (l.length : Int) (n : Int) c = some (!c && tabB (prevOf l (n + 1)) (l.drop (n + 1))) := by
   intro c
   simp only [impl_TableOk.j1, w1, ih']
   cases c <;> rfl
  rw [tabB_step l n hn]
  simp only [impl_TableOk.l0]
  rw [if_pos (by omega), if_pos (by omega), if_pos (by omega), i_factOk, rdF l n hn]
  simp only [Option.bind_some, j1]
  show (if fok l[n] = true then _ else _) = _
  cases hf : fok l[n]
  ·rfl
  ·obtain ⟨f0, -⟩ := fok_node hf
   rw [if_pos rfl, Bool.true_and]
   by_cases hz : n = 0
   ·subst hz
    rw [if_neg (by omega), decide_eq_true (by unfold prevOf; rw [if_pos rfl]; omega), Bool.true_and]
    rfl
   ·have w2 : wrap64 ((n : Int) - 1) = ((n - 1 : Nat) : Int) := by rw [w64 (by omega) (by omega)]; omega
    have hp : prevOf l n = l[n - 1].f0 := by unfold prevOf; rw [if_neg hz, rdF l (n - 1) (by omega)]
    rw [if_pos (by omega), w2, if_pos (by omega), if_pos (by omega), rdF l (n - 1) (by omega), hp]
    by_cases hlt : l[n - 1].f0 < l[n].f0
    ·rw [decide_eq_false (by omega), decide_eq_true hlt]; rfl
    ·rw [decide_eq_true (by omega), decide_eq_false hlt]; rfl
def tOk (l : List S40) : Bool := tabB (-1) l
theorem i_tab (l : List S40) (hl : l.length ≤ 1000000000000) (k : Nat) (hk : 2 * l.length < k) : impl_TableOk.f k l = some (tOk l) := i_tab_loop l hl l.length k 0 (by omega) (by omega) hk
theorem rdI (l : List S42) (n : Nat) (h : n < l.length) : rd_T42 l (n : Int) = l[n] := by
 unfold rd_T42
 rw [Int.toNat_natCast, List.getD_eq_getElem?_getD, List.getElem?_eq_getElem h]; rfl
def castB : Int → List S42 → Bool
 | _, [] => true
 | p, x :: xs => fok x.f0 && (inB x.f1 1 4 && (decide (p < x.f0.f0) && castB x.f0.f0 xs))
def leftB : List S42 → Bool
 | [] => true
 | x :: xs => inB x.f1 1 4 && leftB xs
theorem castB_eq : ∀ (p : Int) (l : List S42), castB p l = (tabB p (l.map (·.f0)) && leftB l)
 | _, [] => rfl
 | p, x :: xs => by
  simp only [castB, tabB, leftB, List.map_cons, castB_eq x.f0.f0 xs]
  cases fok x.f0 <;> cases inB x.f1 1 4 <;> cases decide (p < x.f0.f0) <;> simp
def prevI (l : List S42) (n : Nat) : Int := if n = 0 then -1 else (rd_T42 l ((n - 1 : Nat) : Int)).f0.f0
theorem castB_step (l : List S42) (n : Nat) (h : n < l.length) : castB (prevI l n) (l.drop n) = (fok l[n].f0 && (inB l[n].f1 1 4 && (decide (prevI l n < l[n].f0.f0) && castB (prevI l (n + 1)) (l.drop (n + 1))))) := by
 rw [List.drop_eq_getElem_cons h]
 have e : prevI l (n + 1) = l[n].f0.f0 := by unfold prevI; rw [if_neg (by omega), Nat.add_sub_cancel, rdI l n h]
 rw [e]; rfl
theorem s_cast_loop (l : List S42) (hl : l.length ≤ 1000000000000) (d : Nat) : ∀ (k n : Nat), n ≤ l.length → l.length - n = d → 2 * d < k → spec_CastOk.l0 k l (n : Int) = some (castB (prevI l n) (l.drop n)) := by
 induction d with
 | zero =>
  intro k n h0 h1 h2
  obtain ⟨k, rfl⟩ := (show ∃ m, k = m + 1 from ⟨k - 1, by omega⟩)
  obtain rfl : n = l.length := by omega
  simp only [spec_CastOk.l0]; rw [if_neg (by omega), List.drop_length]; rfl
 | succ d ih =>
  intro k n h0 h1 h2
  obtain ⟨k, rfl⟩ := (show ∃ m, k = m + 2 from ⟨k - 2, by omega⟩)
  have hn : n < l.length := by omega
  have ih' := ih k (n + 1) (by omega) (by omega) (by omega)
  have w1 : wrap64 ((n : Int) + 1) = ((n + 1 : Nat) : Int) := by rw [w64 (by omega) (by omega)]; omega
  have j1 : ∀ c : Bool, spec_CastOk.j1 (k + 1) l (n : Int) c = some (!c && castB (prevI l (n + 1)) (l.drop (n + 1))) := by
   intro c
   simp only [spec_CastOk.j1, w1, ih']
   cases c <;> rfl
  rw [castB_step l n hn]
  simp only [spec_CastOk.l0]
  rw [if_pos (by omega), if_pos (by omega), s_factOk, rdI l n hn, s_in]
  simp only [Option.bind_some, j1]
  show (if fok l[n].f0 = true then (if inB l[n].f1 1 4 = true then _ else _) else _) = _
  cases hf : fok l[n].f0
  ·rfl
  ·obtain ⟨f0, -⟩ := fok_node hf
   rw [if_pos rfl, Bool.true_and]
   cases inB l[n].f1 1 4
   ·rfl
   ·rw [if_pos rfl, Bool.true_and]
    by_cases hz : n = 0
    ·subst hz
     rw [if_neg (by omega), decide_eq_true (by unfold prevI; rw [if_pos rfl]; omega), Bool.true_and]
     rfl
    ·have w2 : wrap64 ((n : Int) - 1) = ((n - 1 : Nat) : Int) := by rw [w64 (by omega) (by omega)]; omega
     have hp : prevI l n = l[n - 1].f0.f0 := by unfold prevI; rw [if_neg hz, rdI l (n - 1) (by omega)]
     rw [if_pos (by omega), w2, if_pos (by omega), if_pos (by omega), rdI l (n - 1) (by omega), hp]
     by_cases hlt : l[n - 1].f0.f0 < l[n].f0.f0
     ·rw [decide_eq_false (by omega), decide_eq_true hlt]; rfl
     ·rw [decide_eq_true (by omega), decide_eq_false hlt]; rfl
theorem i_facts_loop (l : List S42) (hl : l.length ≤ 1000000000000) (d : Nat) : ∀ (k n : Nat) (acc : List S40), acc.length = n → n ≤ l.length → l.length - n = d → d < k → impl_facts.l0 k acc l (l.length : Int) (n : Int) = some (acc ++ (l.drop n).map (·.f0)) := by
 induction d with
 | zero =>
  intro k n acc ha h0 h1 h2
  obtain ⟨k, rfl⟩ : ∃ m, k = m + 1 := ⟨k - 1, by omega⟩
  obtain rfl : n = l.length := by omega
  simp only [impl_facts.l0]; rw [if_neg (by omega), List.drop_length]; simp
 | succ d ih =>
  intro k n acc ha h0 h1 h2
  obtain ⟨k, rfl⟩ : ∃ m, k = m + 1 := ⟨k - 1, by omega⟩
  have hn : n < l.length := by omega
  have w1 : wrap64 ((n : Int) + 1) = ((n + 1 : Nat) : Int) := by rw [w64 (by omega) (by omega)]; omega
  have ih2 := ih k (n + 1) (acc ++ [l[n].f0]) (by rw [List.length_append, List.length_singleton]; omega) (by omega) (by omega) (by omega)
  simp only [impl_facts.l0]
  rw [if_pos (by omega), if_pos (by omega), if_pos (by omega), if_pos (by omega), rdI l n hn, w1, List.drop_eq_getElem_cons hn, List.map_cons]
  refine ih2.trans ?_
  rw [List.append_assoc]; rfl
theorem i_facts (l : List S42) (hl : l.length ≤ 1000000000000) (k : Nat) (hk : l.length < k) : impl_facts.f k l = some (l.map (·.f0)) := by
 have := i_facts_loop l hl l.length k 0 [] rfl (by omega) (by omega) hk
 simpa [impl_facts.f] using this
theorem i_left_loop (l : List S42) (hl : l.length ≤ 1000000000000) (d : Nat) : ∀ (k n : Nat), n ≤ l.length → l.length - n = d → d < k → ∃ t, impl_Item_49.l0 k l (l.length : Int) (n : Int) = some t ∧ decide (t ≥ 0) = !leftB (l.drop n) := by
 induction d with
 | zero =>
  intro k n h0 h1 h2
  obtain ⟨k, rfl⟩ : ∃ m, k = m + 1 := ⟨k - 1, by omega⟩
  obtain rfl : n = l.length := by omega
  simp only [impl_Item_49.l0]; rw [if_neg (by omega), List.drop_length]; exact ⟨_, rfl, rfl⟩
 | succ d ih =>
  intro k n h0 h1 h2
  obtain ⟨k, rfl⟩ : ∃ m, k = m + 1 := ⟨k - 1, by omega⟩
  have hn : n < l.length := by omega
  obtain ⟨t, e1, e2⟩ := ih k (n + 1) (by omega) (by omega) (by omega)
  have w1 : wrap64 ((n : Int) + 1) = ((n + 1 : Nat) : Int) := by rw [w64 (by omega) (by omega)]; omega
  rw [List.drop_eq_getElem_cons hn]
  simp only [impl_Item_49.l0, leftB, impl_CastOk_1.f, i_in, Option.bind_some]
  rw [if_pos (by omega), if_pos (by omega), if_pos (by omega), rdI l n hn, w1, e1]
  show ∃ t_, (if (!inB l[n].f1 1 4) = true then some (n : Int) else some t) = some t_ ∧ _
  cases inB l[n].f1 1 4
  ·exact ⟨_, rfl, by rw [Bool.false_and]; exact decide_eq_true (by omega)⟩
  ·exact ⟨t, rfl, by rw [Bool.true_and]; exact e2⟩
def cOk (l : List S42) : Bool := castB (-1) l
theorem s_cast (l : List S42) (hl : l.length ≤ 1000000000000) (k : Nat) (hk : 2 * l.length < k) : spec_CastOk.f k l = some (cOk l) := s_cast_loop l hl l.length k 0 (by omega) (by omega) hk
theorem i_cast (l : List S42) (hl : l.length ≤ 1000000000000) (k : Nat) (hk : 2 * l.length < k) : impl_CastOk.f k l = some (cOk l) := by
 obtain ⟨t, e1, e2⟩ := i_left_loop l hl l.length k 0 (by omega) (by omega) (by omega)
 have hlen : (l.map (·.f0)).length = l.length := List.length_map ..
 have e3 : impl_Item_49.f k l () = some t := e1
 simp only [impl_CastOk.f, i_facts l hl k (by omega), i_tab (l.map (·.f0)) (by omega) k (by omega), Option.bind_some, impl_Item_39.f, e3, e2, List.drop_zero, Bool.not_not, cOk, castB_eq, tOk]
 cases tabB (-1) (l.map (·.f0)) <;> rfl
/-! an insertion sort in place, by any key: the greatest key first, equal keys as they came -/
def insK (K : Int → Int) (x : Int) : List Int → List Int
 | [] => [x]
 | y :: ys => if K x ≤ K y then y :: insK K x ys else x :: y :: ys
theorem insK_length (K : Int → Int) (x : Int) : ∀ s, (insK K x s).length = s.length + 1
 | [] => rfl
 | y :: ys => by
  simp only [insK]
  split
  ·simp only [List.length_cons, insK_length K x ys]
  ·rfl
theorem insK_perm (K : Int → Int) (x : Int) : ∀ s, (insK K x s).Perm (x :: s)
 | [] => List.Perm.refl _
 | y :: ys => by
  simp only [insK]
  split
  ·exact ((insK_perm K x ys).cons y).trans (List.Perm.swap x y ys)
  ·exact List.Perm.refl _
theorem insK_at (K : Int → Int) (x : Int) : ∀ (a b : List Int), (∀ y ∈ a, K x ≤ K y) → (∀ y ∈ b, K y < K x) → insK K x (a ++ b) = a ++ x :: b
 | [], [], _, _ => rfl
 | [], y :: ys, _, h => by
  simp only [List.nil_append, insK]
  rw [if_neg (by have := h y List.mem_cons_self; omega)]
 | z :: zs, b, h, h2 => by
  simp only [List.cons_append, insK]
  rw [if_pos (h z List.mem_cons_self), insK_at K x zs b (fun y hy => h y (List.mem_cons_of_mem _ hy)) h2]
def srtK (K : Int → Int) (l : List Int) : List Int := l.foldl (fun s x => insK K x s) []
theorem srtK_snoc (K : Int → Int) (l : List Int) (x : Int) : srtK K (l ++ [x]) = insK K x (srtK K l) := by
 simp only [srtK, List.foldl_append, List.foldl_cons, List.foldl_nil]
theorem foldK_perm (K : Int → Int) : ∀ (l s : List Int), (l.foldl (fun s x => insK K x s) s).Perm (l ++ s)
 | [], s => List.Perm.refl _
 | x :: xs, s => by
  rw [List.foldl_cons]
  exact (foldK_perm K xs (insK K x s)).trans (((insK_perm K x s).append_left xs).trans List.perm_middle)
theorem srtK_perm (K : Int → Int) (l : List Int) : (srtK K l).Perm l := by
 have := foldK_perm K l []
 rwa [List.append_nil] at this
theorem srtK_length (K : Int → Int) (l : List Int) : (srtK K l).length = l.length := (srtK_perm K l).length_eq
theorem insK_mem (K : Int → Int) (x y : Int) (s : List Int) : y ∈ insK K x s ↔ y = x ∨ y ∈ s := by
 rw [(insK_perm K x s).mem_iff, List.mem_cons]
/-- what is kept: a relation in which x stands right -/
theorem insK_pair (K : Int → Int) (R : Int → Int → Prop) (x : Int) : ∀ s, s.Pairwise R → (∀ y ∈ s, K x ≤ K y → R y x) → (∀ y ∈ s, ¬ K x ≤ K y → R x y) → (∀ y z, y ∈ s → z ∈ s → R x y → R y z → R x z) → (insK K x s).Pairwise R
 | [], _, _, _, _ => by simp [insK]
 | y :: ys, hs, h1, h2, ht => by
  rw [List.pairwise_cons] at hs
  simp only [insK]
  split
  ·next c =>
   rw [List.pairwise_cons]
   refine ⟨fun z hz => ?_, insK_pair K R x ys hs.2 (fun z hz => h1 z (List.mem_cons_of_mem _ hz)) (fun z hz => h2 z (List.mem_cons_of_mem _ hz)) (fun z w hz hw => ht z w (List.mem_cons_of_mem _ hz) (List.mem_cons_of_mem _ hw))⟩
   rw [insK_mem] at hz
   rcases hz with rfl | hz
   ·exact h1 y List.mem_cons_self c
   ·exact hs.1 z hz
  ·next c =>
   have hxy := h2 y List.mem_cons_self c
   rw [List.pairwise_cons, List.pairwise_cons]
   refine ⟨fun z hz => ?_, hs⟩
   rcases List.mem_cons.1 hz with rfl | hz
   ·exact hxy
   ·exact ht y z List.mem_cons_self (List.mem_cons_of_mem _ hz) hxy (hs.1 z hz)
theorem srtK_desc (K : Int → Int) (l : List Int) : (srtK K l).Pairwise (fun a b => K b ≤ K a) := by
 have go : ∀ (l s : List Int), s.Pairwise (fun a b => K b ≤ K a) → (l.foldl (fun s x => insK K x s) s).Pairwise (fun a b => K b ≤ K a) := by
  intro l
  induction l with
  | nil => intro s hs; exact hs
  | cons x xs ih =>
   intro s hs
   rw [List.foldl_cons]
   exact ih _ (insK_pair K _ x s hs (fun y _ h => h) (fun y _ h => by omega) (fun y z _ _ h1 h2 => by omega))
 exact go l [] List.Pairwise.nil
theorem rdD (l : List Int) (i : Nat) (h : i < l.length) : rd l (i : Int) = l[i] := by
 unfold rd
 rw [Int.toNat_natCast, List.getD_eq_getElem?_getD, List.getElem?_eq_getElem h]; rfl
theorem swap_mid (a b : List Int) (x y : Int) : ((a ++ y :: x :: b).set (a.length + 1) y).set a.length x = a ++ x :: y :: b := by
 rw [List.set_append_right (h := by omega), List.set_append_right (h := by omega)]
 rw [show a.length + 1 - a.length = 1 by omega, Nat.sub_self]
 rfl
/-- l0, l1: the two loops of an insertion sort of n numbers, by the key K -/
structure ISort (K : Int → Int) (n : Nat) (ok : Int → Prop) (l0 : Nat → List Int → Nat → Option (List Int)) (l1 : Nat → List Int → Nat → Nat → Option (List Int)) : Prop where
 out : ∀ k d i, ¬ i < n → l0 (k + 1) d i = some d
 in_ : ∀ k d i, i < n → l0 (k + 1) d i = l1 k d i i
 top : ∀ k d i, i < n → l1 (k + 1) d i 0 = l0 k d (i + 1)
 lo : ∀ k d i j, i < n → j < i → j + 1 < d.length → (∀ x ∈ d, ok x) → K (rd d ((j : Nat) : Int)) < K (rd d ((j + 1 : Nat) : Int)) → l1 (k + 1) d i (j + 1) = l1 k ((d.set (j + 1) (rd d ((j : Nat) : Int))).set j (rd d ((j + 1 : Nat) : Int))) i j
 hi : ∀ k d i j, i < n → j < i → j + 1 < d.length → (∀ x ∈ d, ok x) → ¬ K (rd d ((j : Nat) : Int)) < K (rd d ((j + 1 : Nat) : Int)) → l1 (k + 1) d i (j + 1) = l0 k d (i + 1)
section
variable {K : Int → Int} {n : Nat} {ok : Int → Prop} {l0 : Nat → List Int → Nat → Option (List Int)} {l1 : Nat → List Int → Nat → Nat → Option (List Int)}
theorem ISort.inner (H : ISort K n ok l0 l1) (x : Int) (t : List Int) (i : Nat) (hi : i < n) : ∀ (p : Nat) (a b : List Int) (k : Nat), a.length = p → p ≤ i → p < k → (∀ y ∈ a ++ x :: (b ++ t), ok y) → (∀ y ∈ b, K y < K x) → (a ++ b).Pairwise (fun a b => K b ≤ K a) →
  ∃ k', k ≤ k' + p + 1 ∧ l1 k (a ++ x :: (b ++ t)) i p = l0 k' (insK K x (a ++ b) ++ t) (i + 1) := by
 intro p
 induction p with
 | zero =>
  intro a b k ha _ hk _ hb _
  obtain ⟨k, rfl⟩ : ∃ m, k = m + 1 := ⟨k - 1, by omega⟩
  obtain rfl := List.eq_nil_of_length_eq_zero ha
  refine ⟨k, by omega, ?_⟩
  rw [H.top k _ i hi, insK_at K x [] b (by simp) hb]
  rfl
 | succ p ih =>
  intro a b k ha hpi hk hok hb hs
  obtain ⟨k, rfl⟩ : ∃ m, k = m + 1 := ⟨k - 1, by omega⟩
  have hne : a ≠ [] := by rintro rfl; simp at ha
  obtain ⟨a, y, rfl⟩ : ∃ a' y, a = a' ++ [y] := ⟨a.dropLast, a.getLast hne, (List.dropLast_concat_getLast hne).symm⟩
  have hap : a.length = p := by simpa using ha
  have e : a ++ [y] ++ x :: (b ++ t) = a ++ y :: x :: (b ++ t) := by simp
  rw [e] at hok ⊢
  have hlen : p + 1 < (a ++ y :: x :: (b ++ t)).length := by simp; omega
  have r1 : rd (a ++ y :: x :: (b ++ t)) ((p : Nat) : Int) = y := by
   rw [rdD _ _ (by omega), List.getElem_append_right (by omega)]; simp [hap]
  have r2 : rd (a ++ y :: x :: (b ++ t)) ((p + 1 : Nat) : Int) = x := by
   rw [rdD _ _ (by omega), List.getElem_append_right (by omega)]; simp [show p + 1 - a.length = 1 by omega]
  by_cases c : K y < K x
  ·have h1 := H.lo k (a ++ y :: x :: (b ++ t)) i p hi (by omega) hlen hok (by rw [r1, r2]; exact c)
   rw [r1, r2] at h1
   have h2 : ((a ++ y :: x :: (b ++ t)).set (p + 1) y).set p x = a ++ x :: ((y :: b) ++ t) := by
    have := swap_mid a (b ++ t) x y
    rw [hap] at this
    exact this
   rw [h2] at h1
   obtain ⟨k', e1, e2⟩ := ih a (y :: b) k hap (by omega) (by omega) (fun z hz => hok z (by
    simp only [List.mem_append, List.mem_cons, List.cons_append] at hz ⊢
    rcases hz with hz | hz | hz | hz | hz
    ·exact .inl hz
    ·exact .inr (.inr (.inl hz))
    ·exact .inr (.inl hz)
    ·exact .inr (.inr (.inr (.inl hz)))
    ·exact .inr (.inr (.inr (.inr hz))))) (fun z hz => by
     rcases List.mem_cons.1 hz with rfl | hz
     ·exact c
     ·exact hb z hz) (by simpa using hs)
   refine ⟨k', by omega, ?_⟩
   rw [h1, e2]
   simp
  ·refine ⟨k, by omega, ?_⟩
   rw [H.hi k _ i p hi (by omega) hlen hok (by rw [r1, r2]; exact c)]
   congr 1
   have hs' : (a ++ [y]).Pairwise (fun a b => K b ≤ K a) := (List.pairwise_append.1 hs).1
   rw [insK_at K x (a ++ [y]) b (fun z hz => ?_) hb]
   ·simp
   ·rcases List.mem_append.1 hz with hz | hz
    ·have := (List.pairwise_append.1 hs').2.2 z hz y (by simp)
     omega
    ·obtain rfl := List.mem_singleton.1 hz
     omega
theorem ISort.outer (H : ISort K n ok l0 l1) (d : Nat) : ∀ (i : Nat) (a t : List Int) (k : Nat), n - i = d → a.length = i → i ≤ n → i + t.length = n → (∀ y ∈ a ++ t, ok y) → d * (n + 2) < k → l0 k (srtK K a ++ t) i = some (srtK K (a ++ t)) := by
 induction d with
 | zero =>
  intro i a t k h0 h1 h2 h3 hok hk
  obtain ⟨k, rfl⟩ : ∃ m, k = m + 1 := ⟨k - 1, by omega⟩
  obtain rfl : t = [] := List.eq_nil_of_length_eq_zero (by omega)
  rw [H.out k _ i (by omega), List.append_nil, List.append_nil]
 | succ d ih =>
  intro i a t k h0 h1 h2 h3 hok hk
  obtain ⟨k, rfl⟩ : ∃ m, k = m + 1 := ⟨k - 1, by omega⟩
  rw [Nat.add_mul, Nat.one_mul] at hk
  cases t with
  | nil => simp at h3; omega
  | cons x t =>
   rw [H.in_ k _ i (by omega)]
   obtain ⟨k', e1, e2⟩ := H.inner x t i (by omega) i (srtK K a) [] k (by rw [srtK_length]; exact h1) (Nat.le_refl _) (by omega) (fun y hy => hok y (by
    simp only [List.mem_append, List.mem_cons, List.nil_append] at hy ⊢
    rcases hy with hy | hy
    ·exact .inl ((srtK_perm K a).mem_iff.1 hy)
    ·exact .inr hy)) (by simp) (by rw [List.append_nil]; exact srtK_desc K a)
   simp only [List.nil_append, List.append_nil] at e2
   rw [e2, ← srtK_snoc, ih (i + 1) (a ++ [x]) t k' (by omega) (by simp; omega) (by omega) (by simp at h3; omega) (by simpa using hok) (by omega)]
   simp
theorem ISort.whole (H : ISort K n ok l0 l1) (l : List Int) (hn : l.length = n) (hok : ∀ y ∈ l, ok y) (k : Nat) (hk : n * (n + 2) < k) : l0 k l 1 = some (srtK K l) := by
 cases l with
 | nil =>
  obtain ⟨k, rfl⟩ : ∃ m, k = m + 1 := ⟨k - 1, by omega⟩
  simp at hn
  subst hn
  rw [H.out k _ 1 (by omega)]; rfl
 | cons x t =>
  have h1 : n = t.length + 1 := by rw [← hn]; rfl
  have h2 : (n - 1) * (n + 2) ≤ n * (n + 2) := Nat.mul_le_mul_right _ (by omega)
  have := H.outer (n - 1) 1 [x] t k (by omega) rfl (by omega) (by omega) hok (by omega)
  exact this
end
/-! CastTake: the two sorts -/
def keyI (L : List S42) (i : Int) : Int := (rd_T42 L i).f1
theorem keyI_at (L : List S42) (i : Nat) (h : i < L.length) : keyI L (i : Int) = L[i].f1 := by
 unfold keyI; rw [rdI L i h]
theorem keyI_in (L : List S42) (hk : ∀ y ∈ L, 1 ≤ y.f1 ∧ y.f1 ≤ 4) (i : Int) (h0 : 0 ≤ i) (h1 : i < (L.length : Int)) : 1 ≤ keyI L i ∧ keyI L i ≤ 4 := by
 obtain ⟨j, rfl⟩ : ∃ j : Nat, i = j := ⟨i.toNat, by omega⟩
 rw [keyI_at L j (by omega)]
 exact hk _ (List.getElem_mem _)
theorem cmpT (L : List S42) (hk : ∀ y ∈ L, 1 ≤ y.f1 ∧ y.f1 ≤ 4) (a b : Int) (ha : 0 ≤ a ∧ a < (L.length : Int)) (hb : 0 ≤ b ∧ b < (L.length : Int)) : impl_CastTake_1.f a b L = some (keyI L b - keyI L a) := by
 have h1 := keyI_in L hk a ha.1 ha.2
 have h2 := keyI_in L hk b hb.1 hb.2
 have e : wrap64 (keyI L b - keyI L a) = keyI L b - keyI L a := w64 (by omega) (by omega)
 simp only [impl_CastTake_1.f]
 rw [if_pos hb.1, if_pos hb.2, if_pos ha.1, if_pos ha.2]
 exact congrArg some e
theorem rd_mem (d : List Int) (i : Nat) (h : i < d.length) : rd d (i : Int) ∈ d := by
 rw [rdD d i h]; exact List.getElem_mem _
theorem stab_isort (L : List S42) (hk : ∀ y ∈ L, 1 ≤ y.f1 ∧ y.f1 ≤ 4) (n : Nat) (hn : n ≤ 1000) :
  ISort (keyI L) n (fun x => 0 ≤ x ∧ x < (L.length : Int)) (fun k d i => slices_insertionSortCmpFunc_int.l0 k d 0 (n : Int) L (i : Int)) (fun k d i j => slices_insertionSortCmpFunc_int.l1 k d 0 (n : Int) L (i : Int) (j : Int)) where
 out := fun k d i h => by
  simp only [slices_insertionSortCmpFunc_int.l0]; rw [if_neg (by omega)]
 in_ := fun k d i h => by
  simp only [slices_insertionSortCmpFunc_int.l0]; rw [if_pos (by omega)]
 top := fun k d i h => by
  have w1 : wrap64 ((i : Int) + 1) = ((i + 1 : Nat) : Int) := by rw [w64 (by omega) (by omega)]; omega
  simp only [slices_insertionSortCmpFunc_int.l1, w1]; rw [if_neg (by omega)]
 lo := fun k d i j h hj hd hok c => by
  have w1 : wrap64 (((j + 1 : Nat) : Int) - 1) = (j : Int) := by rw [w64 (by omega) (by omega)]; omega
  simp only [slices_insertionSortCmpFunc_int.l1, w1]
  rw [if_pos (by omega), if_pos (by omega), if_pos (by omega), if_pos (by omega), if_pos (by omega), cmpT L hk _ _ (hok _ (rd_mem d _ hd)) (hok _ (rd_mem d _ (by omega)))]
  simp only [Option.bind_some, Int.toNat_natCast]
  rw [if_pos (by omega)]
 hi := fun k d i j h hj hd hok c => by
  have w1 : wrap64 (((j + 1 : Nat) : Int) - 1) = (j : Int) := by rw [w64 (by omega) (by omega)]; omega
  have w2 : wrap64 ((i : Int) + 1) = ((i + 1 : Nat) : Int) := by rw [w64 (by omega) (by omega)]; omega
  simp only [slices_insertionSortCmpFunc_int.l1, w1, w2]
  rw [if_pos (by omega), if_pos (by omega), if_pos (by omega), if_pos (by omega), if_pos (by omega), cmpT L hk _ _ (hok _ (rd_mem d _ hd)) (hok _ (rd_mem d _ (by omega)))]
  simp only [Option.bind_some]
  rw [if_neg (by omega)]
theorem less_int (a b : Int) : cmp_Less_int.f a b = some (decide (a < b)) := by
 simp [cmp_Less_int.f, cmp_isNaN_int.f]
theorem ord_isort (n : Nat) (hn : n ≤ 1000) :
  ISort (fun x => -x) n (fun _ => True) (fun k d i => slices_insertionSortOrdered_int.l0 k d 0 (n : Int) (i : Int)) (fun k d i j => slices_insertionSortOrdered_int.l1 k d 0 (n : Int) (i : Int) (j : Int)) where
 out := fun k d i h => by
  simp only [slices_insertionSortOrdered_int.l0]; rw [if_neg (by omega)]
 in_ := fun k d i h => by
  simp only [slices_insertionSortOrdered_int.l0]; rw [if_pos (by omega)]
 top := fun k d i h => by
  have w1 : wrap64 ((i : Int) + 1) = ((i + 1 : Nat) : Int) := by rw [w64 (by omega) (by omega)]; omega
  simp only [slices_insertionSortOrdered_int.l1, w1]; rw [if_neg (by omega)]
 lo := fun k d i j h hj hd hok c => by
  have w1 : wrap64 (((j + 1 : Nat) : Int) - 1) = (j : Int) := by rw [w64 (by omega) (by omega)]; omega
  simp only [slices_insertionSortOrdered_int.l1, w1, less_int]
  rw [if_pos (by omega), if_pos (by omega), if_pos (by omega), if_pos (by omega), if_pos (by omega)]
  simp only [Option.bind_some, Int.toNat_natCast]
  rw [if_pos (decide_eq_true (by omega))]
 hi := fun k d i j h hj hd hok c => by
  have w1 : wrap64 (((j + 1 : Nat) : Int) - 1) = (j : Int) := by rw [w64 (by omega) (by omega)]; omega
  have w2 : wrap64 ((i : Int) + 1) = ((i + 1 : Nat) : Int) := by rw [w64 (by omega) (by omega)]; omega
  simp only [slices_insertionSortOrdered_int.l1, w1, w2, less_int]
  rw [if_pos (by omega), if_pos (by omega), if_pos (by omega), if_pos (by omega), if_pos (by omega)]
  simp only [Option.bind_some]
  rw [if_neg (by rw [decide_eq_true_eq]; omega)]
theorem stab_f (L : List S42) (hk : ∀ y ∈ L, 1 ≤ y.f1 ∧ y.f1 ≤ 4) (d : List Int) (hd : d.length ≤ 12) (hok : ∀ x ∈ d, 0 ≤ x ∧ x < (L.length : Int)) (k : Nat) (h : 200 < k) : slices_SortStableFunc_int_int.f k d () L = some (srtK (keyI L) d) := by
 have h2 : d.length * (d.length + 2) ≤ 12 * (12 + 2) := Nat.mul_le_mul hd (by omega)
 have := (stab_isort L hk d.length (by omega)).whole d rfl hok k (by omega)
 simp only [slices_SortStableFunc_int_int.f, slices_stableCmpFunc_int.f, slices_insertionSortCmpFunc_int.f]
 rw [if_pos (by omega), show wrap64 (0 + 1) = ((1 : Nat) : Int) from w64 (by omega) (by omega), this]; simp only [Option.bind_some]
theorem w_le (n : Nat) (h : n ≤ 12) : wrap64 ((n : Int) - 0) ≤ 12 := by
 rw [w64 (by omega) (by omega)]; omega
theorem pdq_f (d : List Int) (hd : d.length ≤ 12) (k : Nat) (h : 200 < k) (v : Int) : slices_pdqsortOrdered_int.f (k + 1) d 0 (d.length : Int) v = some (srtK (fun x => -x) d) := by
 have h2 : d.length * (d.length + 2) ≤ 12 * (12 + 2) := Nat.mul_le_mul hd (by omega)
 have h3 : d.length * (d.length + 2) < k := by omega
 clear h2
 have e := (ord_isort d.length (by omega)).whole d rfl (fun _ _ => trivial) k h3
 have e2 : slices_insertionSortOrdered_int.f k d 0 (d.length : Int) = some (srtK (fun x => -x) d) := by
  have w1 : wrap64 (0 + 1) = ((1 : Nat) : Int) := w64 (by omega) (by omega)
  unfold slices_insertionSortOrdered_int.f
  rw [w1]
  exact e
 unfold slices_pdqsortOrdered_int.f
 rw [slices_pdqsortOrdered_int.l0, if_pos (w_le d.length hd), e2]
 rfl
theorem sort_f (d : List Int) (hd : d.length ≤ 12) (k : Nat) (h : 201 < k) : slices_Sort_int_int.f k d = some (srtK (fun x => -x) d) := by
 obtain ⟨k, rfl⟩ : ∃ m, k = m + 1 := ⟨k - 1, by omega⟩
 have e := fun v => pdq_f d hd k (by omega) v
 unfold slices_Sort_int_int.f bits_Len.f
 rw [Option.bind_some, e, Option.bind_some]
/-! CastTake: who is told, what is left -/
theorem castB_le : ∀ (p : Int) (l : List S42), castB p l = true → -1 ≤ p → p ≤ 7 → (l.length : Int) ≤ 7 - p
 | p, [], _, _, h => by simp; omega
 | p, x :: xs, h, h1, _ => by
  simp only [castB, Bool.and_eq_true, decide_eq_true_eq] at h
  obtain ⟨hf, _, hp, hx⟩ := h
  have hn := fok_node hf
  have := castB_le x.f0.f0 xs hx (by omega) (by omega)
  simp only [List.length_cons]
  omega
theorem castB_left : ∀ (p : Int) (l : List S42), castB p l = true → ∀ y ∈ l, 1 ≤ y.f1 ∧ y.f1 ≤ 4
 | _, [], _, y, hy => by cases hy
 | p, x :: xs, h, y, hy => by
  simp only [castB, inB, Bool.and_eq_true, decide_eq_true_eq] at h
  obtain ⟨hf, hl, hp, hx⟩ := h
  rcases List.mem_cons.1 hy with rfl | hy
  ·exact hl
  ·exact castB_left x.f0.f0 xs hx y hy
def idx (n : Nat) : List Int := (List.range n).map (fun i : Nat => (i : Int))
theorem idx_length (n : Nat) : (idx n).length = n := by simp [idx]
theorem idx_succ (n : Nat) : idx (n + 1) = idx n ++ [(n : Int)] := by simp [idx, List.range_succ]
theorem idx_mem (n : Nat) (x : Int) : x ∈ idx n ↔ 0 ≤ x ∧ x < (n : Int) := by
 simp only [idx, List.mem_map, List.mem_range]
 constructor
 ·rintro ⟨i, hi, rfl⟩; omega
 ·intro h; exact ⟨x.toNat, by omega, by omega⟩
theorem idx_get (n i : Nat) (h : i < (idx n).length) : (idx n)[i] = (i : Int) := by simp [idx]
theorem idx_asc (n : Nat) : (idx n).Pairwise (fun a b => a < b) := by
 rw [List.pairwise_iff_getElem]
 intro i j hi hj hij
 rw [idx_get, idx_get]; omega
theorem asc_nodup {l : List Int} (h : l.Pairwise (fun a b => a < b)) : l.Nodup := h.imp (fun h e => by omega)
/-- who stands ahead -/
def bef (L : List S42) (a b : Int) : Prop := keyI L b < keyI L a ∨ (keyI L b = keyI L a ∧ a < b)
def ordI (L : List S42) : List Int := srtK (keyI L) (idx L.length)
theorem ordI_perm (L : List S42) : (ordI L).Perm (idx L.length) := srtK_perm _ _
theorem ordI_length (L : List S42) : (ordI L).length = L.length := by rw [(ordI_perm L).length_eq, idx_length]
theorem ordI_mem (L : List S42) (x : Int) : x ∈ ordI L ↔ 0 ≤ x ∧ x < (L.length : Int) := by rw [(ordI_perm L).mem_iff, idx_mem]
theorem ordI_nodup (L : List S42) : (ordI L).Nodup := (ordI_perm L).nodup_iff.2 (asc_nodup (idx_asc _))
theorem ordI_bef (L : List S42) : (ordI L).Pairwise (bef L) := by
 have go : ∀ n : Nat, (srtK (keyI L) (idx n)).Pairwise (bef L) := by
  intro n
  induction n with
  | zero => exact List.Pairwise.nil
  | succ n ih =>
   rw [idx_succ, srtK_snoc]
   have hlt : ∀ y ∈ srtK (keyI L) (idx n), y < (n : Int) := fun y hy => ((idx_mem n y).1 ((srtK_perm _ _).mem_iff.1 hy)).2
   refine insK_pair _ _ _ _ ih (fun y hy h => ?_) (fun y hy h => ?_) (fun y z _ _ h1 h2 => ?_)
   ·have := hlt y hy; unfold bef; omega
   ·have := hlt y hy; unfold bef; omega
   ·unfold bef at h1 h2 ⊢; omega
 exact go _
def howI (L : List S42) (most : Int) : Nat := (mx 0 (mn most (L.length : Int))).toNat
def pickI (L : List S42) (most : Int) : List Int := (ordI L).take (howI L most)
def decI (y : S42) : S42 := ⟨y.f0, y.f1 - 1⟩
def ownI (L : List S42) (S : List Int) : List S42 := (List.range L.length).map (fun i : Nat => if (i : Int) ∈ S then decI (rd_T42 L (i : Int)) else rd_T42 L (i : Int))
def factsI (L : List S42) (T : List Int) : List S40 := T.map (fun i => (rd_T42 L i).f0)
def TF (L : List S42) (S : List Int) : List S40 := factsI L ((idx L.length).filter (fun i => decide (i ∈ S)))
def TR (L : List S42) (S : List Int) : List S42 := (ownI L S).filter (fun y => decide (y.f1 ≠ 0))
theorem ownI_length (L : List S42) (S : List Int) : (ownI L S).length = L.length := by simp [ownI]
theorem ownI_get (L : List S42) (S : List Int) (i : Nat) (h : i < (ownI L S).length) : (ownI L S)[i] = if (i : Int) ∈ S then decI (rd_T42 L (i : Int)) else rd_T42 L (i : Int) := by simp [ownI]
theorem ownI_nil (L : List S42) : ownI L [] = L := by
 refine List.ext_getElem (ownI_length L []) (fun i h1 h2 => ?_)
 rw [ownI_get, if_neg (by simp), rdI L i h2]
theorem ownI_congr (L : List S42) (S T : List Int) (h : ∀ x, x ∈ S ↔ x ∈ T) : ownI L S = ownI L T := by
 unfold ownI
 congr 1
 funext i
 simp only [h]
theorem ownI_set (L : List S42) (S : List Int) (t : Nat) (h : (t : Int) ∉ S) : (ownI L S).set t (decI (rd_T42 L (t : Int))) = ownI L (S ++ [(t : Int)]) := by
 refine List.ext_getElem (by rw [List.length_set, ownI_length, ownI_length]) (fun i h1 h2 => ?_)
 rw [ownI_get, List.getElem_set]
 by_cases e : t = i
 ·subst e
  rw [if_pos rfl, if_pos (by simp)]
 ·rw [if_neg e, ownI_get]
  have : (i : Int) ∈ S ++ [(t : Int)] ↔ (i : Int) ∈ S := by simp; omega
  simp only [this]
theorem asc_eq : ∀ (a b : List Int), a.Pairwise (fun a b => a < b) → b.Pairwise (fun a b => a < b) → (∀ x, x ∈ a ↔ x ∈ b) → a = b
 | [], [], _, _, _ => rfl
 | [], y :: ys, _, _, h => absurd ((h y).2 List.mem_cons_self) (by simp)
 | x :: xs, [], _, _, h => absurd ((h x).1 List.mem_cons_self) (by simp)
 | x :: xs, y :: ys, ha, hb, h => by
  rw [List.pairwise_cons] at ha hb
  have e : x = y := by
   have h1 := (h x).1 List.mem_cons_self
   have h2 := (h y).2 List.mem_cons_self
   rcases List.mem_cons.1 h1 with h1 | h1
   ·exact h1
   ·rcases List.mem_cons.1 h2 with h2 | h2
    ·exact h2.symm
    ·have := ha.1 y h2; have := hb.1 x h1; omega
  subst e
  congr 1
  refine asc_eq xs ys ha.2 hb.2 (fun z => ⟨fun hz => ?_, fun hz => ?_⟩)
  ·rcases List.mem_cons.1 ((h z).1 (List.mem_cons_of_mem _ hz)) with rfl | h3
   ·have := ha.1 z hz; omega
   ·exact h3
  ·rcases List.mem_cons.1 ((h z).2 (List.mem_cons_of_mem _ hz)) with rfl | h3
   ·have := hb.1 z hz; omega
   ·exact h3
theorem sorted_asc (d : List Int) (hd : d.Nodup) : (srtK (fun x => -x) d).Pairwise (fun a b => a < b) := by
 have h1 := srtK_desc (fun x => -x) d
 have h2 : (srtK (fun x => -x) d).Nodup := (srtK_perm _ d).nodup_iff.2 hd
 exact (h1.and h2).imp (fun h => by have := h.1; have := h.2; omega)
theorem pickI_nodup (L : List S42) (m : Nat) : ((ordI L).take m).Nodup := (List.take_sublist _ _).nodup (ordI_nodup L)
theorem pickI_in (L : List S42) (m : Nat) (x : Int) (h : x ∈ (ordI L).take m) : 0 ≤ x ∧ x < (L.length : Int) := (ordI_mem L x).1 (List.mem_of_mem_take h)
theorem sorted_pick (L : List S42) (m : Nat) : srtK (fun x => -x) ((ordI L).take m) = (idx L.length).filter (fun i => decide (i ∈ (ordI L).take m)) := by
 refine asc_eq _ _ (sorted_asc _ (pickI_nodup L m)) ((idx_asc _).sublist (List.filter_sublist)) (fun x => ?_)
 rw [(srtK_perm _ _).mem_iff, List.mem_filter, decide_eq_true_eq, idx_mem]
 exact ⟨fun h => ⟨pickI_in L m x h, h⟩, fun h => h.2⟩
/-! CastTake: the program's loops -/
def keepI (y : S42) : Bool := decide (y.f1 ≠ 0)
theorem tidx_loop (l : List S42) (hl : l.length ≤ 1000) (d : Nat) : ∀ (k n : Nat), n ≤ l.length → l.length - n = d → d < k → (∀ y ∈ l.take n, keepI y = true) → ∃ r, impl_Item_D.l0 k l (l.length : Int) (n : Int) = some r ∧ ((r = -1 ∧ ∀ y ∈ l, keepI y = true) ∨ ∃ i : Nat, r = (i : Int) ∧ i < l.length ∧ (∀ y ∈ l.take i, keepI y = true) ∧ (∀ h : i < l.length, keepI l[i] = false)) := by
 induction d with
 | zero =>
  intro k n h0 h1 h2 h3
  obtain ⟨k, rfl⟩ : ∃ m, k = m + 1 := ⟨k - 1, by omega⟩
  obtain rfl : n = l.length := by omega
  simp only [impl_Item_D.l0]
  rw [if_neg (by omega)]
  rw [List.take_length] at h3
  exact ⟨_, rfl, .inl ⟨rfl, h3⟩⟩
 | succ d ih =>
  intro k n h0 h1 h2 h3
  obtain ⟨k, rfl⟩ : ∃ m, k = m + 1 := ⟨k - 1, by omega⟩
  have hn : n < l.length := by omega
  have w1 : wrap64 ((n : Int) + 1) = ((n + 1 : Nat) : Int) := by rw [w64 (by omega) (by omega)]; omega
  simp only [impl_Item_D.l0, impl_CastTake_2.f, w1, rdI l n hn, Option.bind_some]
  rw [if_pos (by omega), if_pos (by omega), if_pos (by omega)]
  by_cases c : (l[n].f1 == 0) = true
  ·rw [if_pos c]
   exact ⟨_, rfl, .inr ⟨n, rfl, hn, h3, fun _ => by have := beq_iff_eq.1 c; unfold keepI; rw [this]; rfl⟩⟩
  ·rw [if_neg c]
   refine ih k (n + 1) (by omega) (by omega) (by omega) (fun y hy => ?_)
   rw [List.take_succ_eq_append_getElem hn, List.mem_append, List.mem_singleton] at hy
   rcases hy with hy | rfl
   ·exact h3 y hy
   ·unfold keepI; exact decide_eq_true (fun h => c (by rw [h]; rfl))
theorem del_loop (l : List S42) (hl : l.length ≤ 1000) (d : Nat) : ∀ (k i j : Nat) (x : List S42), x.length = l.length → i < j → j ≤ l.length → l.length - j = d → d < k → x.take i = (l.take j).filter keepI → x.drop j = l.drop j → impl_Item_28.l0 k x (i : Int) (j : Int) = some (l.filter keepI) := by
 induction d with
 | zero =>
  intro k i j x hx h0 h1 h2 h3 h4 h5
  obtain ⟨k, rfl⟩ : ∃ m, k = m + 1 := ⟨k - 1, by omega⟩
  obtain rfl : j = l.length := by omega
  simp only [impl_Item_28.l0]
  rw [if_neg (by omega), if_pos (by omega), if_pos (by omega), if_pos (by omega), Int.toNat_natCast, h4, List.take_length]
 | succ d ih =>
  intro k i j x hx h0 h1 h2 h3 h4 h5
  obtain ⟨k, rfl⟩ : ∃ m, k = m + 1 := ⟨k - 1, by omega⟩
  have hj : j < l.length := by omega
  have hjx : j < x.length := by omega
  have w1 : wrap64 ((j : Int) + 1) = ((j + 1 : Nat) : Int) := by rw [w64 (by omega) (by omega)]; omega
  have w2 : wrap64 ((i : Int) + 1) = ((i + 1 : Nat) : Int) := by rw [w64 (by omega) (by omega)]; omega
  have e0 : x[j] = l[j] := by
   have := congrArg (fun z : List S42 => z[0]?) h5
   simp only [List.getElem?_drop, Nat.add_zero] at this
   rw [List.getElem?_eq_getElem hjx, List.getElem?_eq_getElem hj] at this
   exact Option.some.inj this
  have e1 : x.drop (j + 1) = l.drop (j + 1) := by
   rw [← List.drop_drop, ← List.drop_drop, h5]
  simp only [impl_Item_28.l0, impl_CastTake_2.f, w1, w2, rdI x j hjx, e0, Option.bind_some, Int.toNat_natCast]
  rw [if_pos (by omega), if_pos (by omega)]
  have hf : (l.take (j + 1)).filter keepI = (l.take j).filter keepI ++ (if keepI l[j] = true then [l[j]] else []) := by
   rw [List.take_succ_eq_append_getElem hj, List.filter_append]
   congr 1
   simp only [List.filter_cons, List.filter_nil]
  by_cases c : (l[j].f1 == 0) = true
  ·rw [if_pos c]
   have hk : keepI l[j] = false := by have := beq_iff_eq.1 c; unfold keepI; rw [this]; rfl
   refine ih k i (j + 1) x hx (by omega) (by omega) (by omega) (by omega) ?_ e1
   rw [hf, hk, h4]; simp
  ·rw [if_neg c, if_pos (by omega), if_pos (by omega)]
   have hk : keepI l[j] = true := by unfold keepI; exact decide_eq_true (fun h => c (by rw [h]; rfl))
   refine ih k (i + 1) (j + 1) (x.set i l[j]) (by rw [List.length_set]; exact hx) (by omega) (by omega) (by omega) (by omega) ?_ ?_
   ·rw [hf, hk, if_pos rfl, List.take_succ_eq_append_getElem (by rw [List.length_set]; omega), List.getElem_set_self, List.take_set_of_le (Nat.le_refl i), h4]
   ·rw [List.drop_set_of_lt (by omega), e1]
theorem filter_all {α : Type} (p : α → Bool) : ∀ l : List α, (∀ y ∈ l, p y = true) → l.filter p = l
 | [], _ => rfl
 | x :: xs, h => by
  rw [List.filter_cons_of_pos (h x List.mem_cons_self), filter_all p xs (fun y hy => h y (List.mem_cons_of_mem _ hy))]
theorem del_f (l : List S42) (hl : l.length ≤ 1000) (k : Nat) (hk : l.length < k) : impl_Item_28.f k l () = some (l.filter keepI) := by
 obtain ⟨r, e1, e2⟩ := tidx_loop l hl l.length k 0 (by omega) (by omega) hk (by simp)
 have e3 : impl_Item_D.f k l () = some r := e1
 simp only [impl_Item_28.f, e3, Option.bind_some]
 rcases e2 with ⟨rfl, h⟩ | ⟨i, rfl, hi, h, hz⟩
 ·rw [if_pos rfl, filter_all keepI l h]
 ·have w1 : wrap64 ((i : Int) + 1) = ((i + 1 : Nat) : Int) := by rw [w64 (by omega) (by omega)]; omega
  rw [if_neg (by omega), w1]
  refine del_loop l hl (l.length - (i + 1)) k i (i + 1) l rfl (by omega) (by omega) rfl (by omega) ?_ rfl
  rw [List.take_succ_eq_append_getElem hi, List.filter_append, filter_all keepI _ h, List.filter_cons_of_neg (by rw [hz hi]; decide)]
  simp
theorem fill_loop (L : List S42) (most : Int) (hL : L.length ≤ 1000) (d : Nat) : ∀ (k i : Nat), i ≤ L.length → L.length - i = d → d < k → impl_CastTake.l0 k most L (idx i ++ List.replicate (L.length - i) 0) (L.length : Int) (i : Int) = impl_CastTake.l0 (k - d) most L (idx L.length) (L.length : Int) (L.length : Int) := by
 induction d with
 | zero =>
  intro k i h0 h1 h2
  obtain rfl : i = L.length := by omega
  rw [Nat.sub_self, List.replicate_zero, List.append_nil, Nat.sub_zero]
 | succ d ih =>
  intro k i h0 h1 h2
  obtain ⟨k, rfl⟩ : ∃ m, k = m + 1 := ⟨k - 1, by omega⟩
  have w1 : wrap64 ((i : Int) + 1) = ((i + 1 : Nat) : Int) := by rw [w64 (by omega) (by omega)]; omega
  have e : L.length - i = (L.length - (i + 1)) + 1 := by omega
  rw [impl_CastTake.l0, if_pos (by omega), if_pos (by omega), if_pos (by rw [List.length_append, idx_length, List.length_replicate]; omega), w1, Int.toNat_natCast, List.set_append_right (h := by rw [idx_length]; exact Nat.le_refl _), idx_length, Nat.sub_self, e, List.replicate_succ, List.set_cons_zero]
  have ih' := ih k (i + 1) (by omega) (by omega) (by omega)
  rw [idx_succ, List.append_assoc] at ih'
  rw [show k + 1 - (d + 1) = k - d by omega]
  exact ih'
theorem told_loop (L : List S42) (hk4 : ∀ y ∈ L, 1 ≤ y.f1 ∧ y.f1 ≤ 4) (hL : L.length ≤ 1000) (T : List Int) (hT : ∀ x ∈ T, 0 ≤ x ∧ x < (L.length : Int)) (hn : T.Nodup) (hlen : T.length ≤ 1000) (d : Nat) : ∀ (k j : Nat), j ≤ T.length → T.length - j = d → d + L.length + 1 < k → impl_CastTake.l1 k (ownI L (T.take j)) (factsI L (T.take j)) T (T.length : Int) (j : Int) = some (factsI L T, (ownI L T).filter keepI) := by
 induction d with
 | zero =>
  intro k j h0 h1 h2
  obtain ⟨k, rfl⟩ : ∃ m, k = m + 1 := ⟨k - 1, by omega⟩
  obtain rfl : j = T.length := by omega
  rw [impl_CastTake.l1, if_neg (by omega), List.take_length, del_f _ (by rw [ownI_length]; exact hL) k (by rw [ownI_length]; omega)]
  rfl
 | succ d ih =>
  intro k j h0 h1 h2
  obtain ⟨k, rfl⟩ : ∃ m, k = m + 1 := ⟨k - 1, by omega⟩
  have hj : j < T.length := by omega
  have w1 : wrap64 ((j : Int) + 1) = ((j + 1 : Nat) : Int) := by rw [w64 (by omega) (by omega)]; omega
  obtain ⟨t0, t1⟩ := hT _ (List.getElem_mem hj)
  obtain ⟨t, ht⟩ : ∃ t : Nat, T[j] = (t : Int) := ⟨T[j].toNat, by omega⟩
  have htl : t < L.length := by omega
  have hnot : (t : Int) ∉ T.take j := by
   intro h
   obtain ⟨q, hq, e⟩ := List.getElem_of_mem h
   rw [List.getElem_take] at e
   rw [List.length_take] at hq
   have h3 := (List.getElem_inj (xs := T) (i := q) (j := j) (h₀ := by omega) (h₁ := hj) hn).1 (e.trans ht.symm)
   omega
  have hr : rd T (j : Int) = (t : Int) := by rw [rdD T j hj, ht]
  have ho : rd_T42 (ownI L (T.take j)) (t : Int) = L[t] := by
   rw [rdI _ t (by rw [ownI_length]; exact htl), ownI_get, if_neg hnot, rdI L t htl]
  have hd : wrap64 (L[t].f1 - 1) = L[t].f1 - 1 := by
   have := hk4 L[t] (List.getElem_mem _)
   exact w64 (by omega) (by omega)
  have hfl : (factsI L (T.take j)).length = j := by rw [factsI, List.length_map, List.length_take]; omega
  have e2 : T.take (j + 1) = T.take j ++ [(t : Int)] := by rw [List.take_succ_eq_append_getElem hj, ht]
  have e3 : factsI L (T.take (j + 1)) = factsI L (T.take j) ++ [L[t].f0] := by rw [e2, factsI, factsI, List.map_append]; simp only [List.map_cons, List.map_nil]; rw [rdI L t htl]
  have e4 : ownI L (T.take (j + 1)) = (ownI L (T.take j)).set t ⟨L[t].f0, L[t].f1 - 1⟩ := by
   rw [e2, ← ownI_set L _ t hnot, rdI L t htl]; rfl
  have ih' := ih k (j + 1) (by omega) (by omega) (by omega)
  rw [e3, e4] at ih'
  rw [impl_CastTake.l1, if_pos (by omega), if_pos (by omega), if_pos (by omega)]
  simp only [hr, ho, hd, w1, Int.toNat_natCast]
  rw [if_pos (by omega), if_pos (by rw [ownI_length]; omega), if_pos (by rw [hfl]; omega)]
  exact ih'
theorem tclone_f (L : List S42) (hL : L.length ≤ 1000) : impl_Item_25.f L = some L := by
 simp only [impl_Item_25.f, Option.bind_some, List.nil_append, List.length_nil]
 rw [if_pos (by omega)]
theorem howI_le (L : List S42) (most : Int) : howI L most ≤ L.length := by
 unfold howI mx mn; omega
theorem first_f (L : List S42) (hL : L.length ≤ 1000) (most : Int) : impl_first.f (ordI L) most = some (pickI L most) := by
 have h0 : 0 ≤ mx 0 (mn most (L.length : Int)) := by unfold mx mn; omega
 have h1 : mx 0 (mn most (L.length : Int)) ≤ (L.length : Int) := by unfold mx mn; omega
 have hl : ((ordI L).take (howI L most)).length ≤ 1000 := by rw [List.length_take, ordI_length]; omega
 simp only [impl_first.f, impl_clamp.f, Option.bind_some, ordI_length]
 rw [if_pos h0, if_pos h1]
 show ((slices_Clone_int_int.f ((ordI L).take (howI L most))).bind fun t => some t) = _
 simp only [slices_Clone_int_int.f, Option.bind_some, List.nil_append, List.length_nil]
 rw [if_pos (by omega)]
 rfl
def takeF (L : List S42) (most : Int) : List S40 := if cOk L = true then TF L (pickI L most) else []
def takeR (L : List S42) (most : Int) : List S42 := if cOk L = true then TR L (pickI L most) else []
theorem i_take (L : List S42) (hL : L.length ≤ 1000000000000) (most : Int) (k : Nat) (hk : 300 + 2 * L.length < k) : impl_CastTake.f k L most = some (takeF L most, takeR L most) := by
 unfold impl_CastTake.f
 rw [i_cast L hL k (by omega), Option.bind_some]
 unfold takeF takeR
 cases hc : cOk L
 ·rfl
 ·have h8 : (L.length : Int) ≤ 8 := by have := castB_le (-1) L hc (by omega) (by omega); omega
  have h4 := castB_left (-1) L hc
  rw [if_pos rfl, if_pos rfl, if_pos rfl, if_pos (by omega), if_pos (by omega), Option.bind_some, Int.toNat_natCast, List.length_replicate]
  have e := fill_loop L most (by omega) L.length k 0 (by omega) (by omega) (by omega)
  rw [show idx 0 = [] from rfl, List.nil_append, Nat.sub_zero] at e
  refine e.trans ?_
  obtain ⟨q, hq⟩ : ∃ q, k - L.length = q + 1 := ⟨k - L.length - 1, by omega⟩
  have hq2 : 298 < q := by omega
  rw [hq]
  clear e hq hk
  have hS : (pickI L most).length ≤ 8 := by unfold pickI; rw [List.length_take, ordI_length]; omega
  rw [impl_CastTake.l0, if_neg (by omega), stab_f L h4 (idx L.length) (by rw [idx_length]; omega) (fun x hx => (idx_mem _ x).1 hx) q (by omega), Option.bind_some, tclone_f L (by omega), Option.bind_some]
  show ((impl_first.f (ordI L) most).bind _) = _
  rw [first_f L (by omega) most, Option.bind_some, sort_f (pickI L most) (by omega) q (by omega), Option.bind_some]
  have e1 : srtK (fun x => -x) (pickI L most) = (idx L.length).filter (fun i => decide (i ∈ pickI L most)) := sorted_pick L (howI L most)
  have e2 : (pickI L most).length = (srtK (fun x => -x) (pickI L most)).length := (srtK_length _ _).symm
  have hmem : ∀ x, x ∈ srtK (fun x => -x) (pickI L most) ↔ x ∈ pickI L most := fun x => (srtK_perm _ _).mem_iff
  have e3 : ownI L (srtK (fun x => -x) (pickI L most)) = ownI L (pickI L most) := ownI_congr L _ _ hmem
  have e5 := told_loop L h4 (by omega) (srtK (fun x => -x) (pickI L most)) (fun x hx => pickI_in L _ x ((hmem x).1 hx)) (asc_nodup (sorted_asc _ (pickI_nodup L _))) (by omega) _ q 0 (by omega) rfl (by omega)
  rw [List.take_zero, ownI_nil, e3, e1, ← e1] at e5
  rw [e2]
  refine e5.trans ?_
  unfold TF TR
  rw [e1]
  rfl
/-! CastTake: the reference's loops -/
def tkOf (n : Nat) (S : List Int) : List Bool := (List.range n).map (fun i : Nat => decide ((i : Int) ∈ S))
theorem tkOf_length (n : Nat) (S : List Int) : (tkOf n S).length = n := by simp [tkOf]
theorem tkOf_rd (n : Nat) (S : List Int) (i : Nat) (h : i < n) : rdOf false (tkOf n S) (i : Int) = decide ((i : Int) ∈ S) := by
 unfold rdOf
 rw [Int.toNat_natCast, List.getD_eq_getElem?_getD, List.getElem?_eq_getElem (by rw [tkOf_length]; exact h)]
 simp [tkOf]
theorem tkOf_nil (n : Nat) : tkOf n [] = List.replicate n false := by
 refine List.ext_getElem (by rw [tkOf_length, List.length_replicate]) (fun i h1 h2 => ?_)
 simp [tkOf]
theorem tkOf_set (n : Nat) (S : List Int) (t : Nat) : (tkOf n S).set t true = tkOf n (S ++ [(t : Int)]) := by
 refine List.ext_getElem (by rw [List.length_set, tkOf_length, tkOf_length]) (fun i h1 h2 => ?_)
 rw [List.getElem_set]
 by_cases e : t = i
 ·subst e; simp [tkOf]
 ·rw [if_neg e]
  simp only [tkOf, List.getElem_map, List.getElem_range]
  have : (i : Int) ∈ S ++ [(t : Int)] ↔ (i : Int) ∈ S := by simp; omega
  simp only [this]
/-- the best of those before i that are not in S -/
def bestOf (L : List S42) (S : List Int) (i : Nat) (r : Int) : Prop :=
 (r = -1 ∧ ∀ j : Nat, j < i → (j : Int) ∈ S) ∨ ∃ b : Nat, r = (b : Int) ∧ b < i ∧ (b : Int) ∉ S ∧ ∀ j : Nat, j < i → (j : Int) ∉ S → j ≠ b → bef L (b : Int) (j : Int)
theorem next_loop (L : List S42) (S : List Int) (hL : L.length ≤ 1000) (d : Nat) : ∀ (k i : Nat) (best : Int), i ≤ L.length → L.length - i = d → d < k → bestOf L S i best → ∃ r, spec_l5Next.l0 k L (tkOf L.length S) best (i : Int) = some r ∧ bestOf L S L.length r := by
 induction d with
 | zero =>
  intro k i best h0 h1 h2 hb
  obtain ⟨k, rfl⟩ : ∃ m, k = m + 1 := ⟨k - 1, by omega⟩
  obtain rfl : i = L.length := by omega
  rw [spec_l5Next.l0, if_neg (by omega)]
  exact ⟨_, rfl, hb⟩
 | succ d ih =>
  intro k i best h0 h1 h2 hb
  obtain ⟨k, rfl⟩ : ∃ m, k = m + 1 := ⟨k - 1, by omega⟩
  have hi : i < L.length := by omega
  have w1 : wrap64 ((i : Int) + 1) = ((i + 1 : Nat) : Int) := by rw [w64 (by omega) (by omega)]; omega
  have hkey : (rd_T42 L (i : Int)).f1 = keyI L (i : Int) := rfl
  rw [spec_l5Next.l0, if_pos (by omega), if_pos (by omega), if_pos (by rw [tkOf_length]; omega), tkOf_rd _ _ i hi, w1, hkey]
  by_cases c : (i : Int) ∈ S
  ·rw [if_pos (decide_eq_true c)]
   refine ih k (i + 1) best (by omega) (by omega) (by omega) ?_
   rcases hb with ⟨rfl, h⟩ | ⟨b, rfl, hbi, hbS, h⟩
   ·exact .inl ⟨rfl, fun j hj => by
     rcases Nat.lt_succ_iff_lt_or_eq.1 hj with h3 | rfl
     ·exact h j h3
     ·exact c⟩
   ·exact .inr ⟨b, rfl, by omega, hbS, fun j hj hjS hjb => by
     rcases Nat.lt_succ_iff_lt_or_eq.1 hj with h3 | rfl
     ·exact h j h3 hjS hjb
     ·exact absurd c hjS⟩
  ·rw [if_neg (by rw [decide_eq_true_eq]; exact c)]
   rcases hb with ⟨rfl, h⟩ | ⟨b, rfl, hbi, hbS, h⟩
   ·rw [if_pos (by omega)]
    refine ih k (i + 1) (i : Int) (by omega) (by omega) (by omega) (.inr ⟨i, rfl, by omega, c, fun j hj hjS hji => ?_⟩)
    exact absurd (h j (by omega)) hjS
   ·have hkb : (rd_T42 L (b : Int)).f1 = keyI L (b : Int) := rfl
    rw [if_neg (by omega), if_pos (by omega), if_pos (by omega), hkb]
    by_cases g : keyI L (i : Int) > keyI L (b : Int)
    ·rw [if_pos g]
     refine ih k (i + 1) (i : Int) (by omega) (by omega) (by omega) (.inr ⟨i, rfl, by omega, c, fun j hj hjS hji => ?_⟩)
     by_cases e : j = b
     ·subst e; exact .inl g
     ·have := h j (by omega) hjS e
      unfold bef at this ⊢; omega
    ·rw [if_neg g]
     refine ih k (i + 1) (b : Int) (by omega) (by omega) (by omega) (.inr ⟨b, rfl, by omega, hbS, fun j hj hjS hjb => ?_⟩)
     rcases Nat.lt_succ_iff_lt_or_eq.1 hj with h3 | rfl
     ·exact h j h3 hjS hjb
     ·unfold bef; omega
theorem next_f (L : List S42) (hL : L.length ≤ 1000) (m : Nat) (k : Nat) (hk : L.length < k) : spec_l5Next.f k L (tkOf L.length ((ordI L).take m)) = some (if h : m < (ordI L).length then (ordI L)[m] else -1) := by
 obtain ⟨r, e, hb⟩ := next_loop L ((ordI L).take m) hL L.length k 0 (-1) (by omega) (by omega) hk (.inl ⟨rfl, fun j hj => by omega⟩)
 refine e.trans (congrArg some ?_)
 have hn := ordI_nodup L
 by_cases h : m < (ordI L).length
 ·rw [dif_pos h]
  have hm := (ordI_mem L _).1 (List.getElem_mem h)
  obtain ⟨t, ht⟩ : ∃ t : Nat, (ordI L)[m] = (t : Int) := ⟨(ordI L)[m].toNat, by omega⟩
  have hnot : (ordI L)[m] ∉ (ordI L).take m := by
   intro h2
   obtain ⟨q, hq, e2⟩ := List.getElem_of_mem h2
   rw [List.getElem_take] at e2
   rw [List.length_take] at hq
   have h3 := (List.getElem_inj (xs := ordI L) (i := q) (j := m) (h₀ := by omega) (h₁ := h) hn).1 e2
   omega
  rcases hb with ⟨rfl, h2⟩ | ⟨b, rfl, hbl, hbS, h2⟩
  ·exact absurd (h2 t (by omega)) (by rw [← ht]; exact hnot)
  ·by_cases e2 : (b : Int) = (ordI L)[m]
   ·exact e2
   ·exfalso
    have h3 := h2 t (by omega) (by rw [← ht]; exact hnot) (by intro h4; apply e2; rw [ht, h4])
    have hbm : (b : Int) ∈ ordI L := (ordI_mem L _).2 ⟨by omega, by omega⟩
    obtain ⟨q, hq, e3⟩ := List.getElem_of_mem hbm
    have hqm : m < q := by
     rcases Nat.lt_trichotomy q m with h4 | h4 | h4
     ·exact absurd (by rw [← e3]; exact List.mem_take_iff_getElem.2 ⟨q, by omega, rfl⟩) hbS
     ·subst h4; exact absurd e3.symm e2
     ·exact h4
    have h5 := List.pairwise_iff_getElem.1 (ordI_bef L) m q h hq hqm
    rw [e3, ht] at h5
    unfold bef at h3 h5
    omega
 ·rw [dif_neg h]
  rw [ordI_length] at h
  rcases hb with ⟨rfl, h2⟩ | ⟨b, rfl, hbl, hbS, h2⟩
  ·rfl
  ·exfalso
   apply hbS
   rw [List.take_of_length_le (by rw [ordI_length]; omega)]
   exact (ordI_mem L _).2 ⟨by omega, by omega⟩
def posI (y : S42) : Bool := decide (y.f1 > 0)
theorem left_loop (L : List S42) (hk4 : ∀ y ∈ L, 1 ≤ y.f1 ∧ y.f1 ≤ 4) (S : List Int) (hL : L.length ≤ 1000) (d : Nat) : ∀ (k i : Nat) (F : List S40) (R : List S42), i ≤ L.length → L.length - i = d → 2 * d < k → F.length ≤ i → R.length ≤ i → spec_l5Take.l1 k L (tkOf L.length S) F R (i : Int) = some (F ++ factsI L (((idx L.length).drop i).filter (fun j => decide (j ∈ S))), R ++ ((ownI L S).drop i).filter keepI) := by
 induction d with
 | zero =>
  intro k i F R h0 h1 h2 hF hR
  obtain ⟨k, rfl⟩ : ∃ m, k = m + 1 := ⟨k - 1, by omega⟩
  obtain rfl : i = L.length := by omega
  rw [spec_l5Take.l1, if_neg (by omega), List.drop_of_length_le (by rw [idx_length]; omega), List.drop_of_length_le (by rw [ownI_length]; omega)]
  simp [factsI]
 | succ d ih =>
  intro k i F R h0 h1 h2 hF hR
  obtain ⟨k, rfl⟩ : ∃ m, k = m + 2 := ⟨k - 2, by omega⟩
  have hi : i < L.length := by omega
  have h4 := hk4 L[i] (List.getElem_mem hi)
  have hR9 : R.length < 3518437208883 := by omega
  have hw : wrap64 (L[i].f1 - 1) = L[i].f1 - 1 := w64 (by omega) (by omega)
  have ei : (idx L.length).drop i = (i : Int) :: (idx L.length).drop (i + 1) := by
   rw [List.drop_eq_getElem_cons (by rw [idx_length]; exact hi), idx_get]
  have eo : (ownI L S).drop i = (if (i : Int) ∈ S then decI L[i] else L[i]) :: (ownI L S).drop (i + 1) := by
   rw [List.drop_eq_getElem_cons (by rw [ownI_length]; exact hi), ownI_get, rdI L i hi]
  have w1 : wrap64 ((i : Int) + 1) = ((i + 1 : Nat) : Int) := by rw [w64 (by omega) (by omega)]; omega
  have j3 : ∀ (F : List S40) (y0 y1 y2 : Int) (y3 : Bool) (v : Int), spec_l5Take.j3 (k + 1) L (tkOf L.length S) F R (i : Int) y0 y1 y2 y3 v = if v > 0 then spec_l5Take.l1 k L (tkOf L.length S) F (R ++ [⟨⟨y0, y1, y2, y3⟩, v⟩]) ((i + 1 : Nat) : Int) else spec_l5Take.l1 k L (tkOf L.length S) F R ((i + 1 : Nat) : Int) := fun F y0 y1 y2 y3 v => by
   rw [spec_l5Take.j3, w1, if_pos hR9]
  clear w1
  rw [spec_l5Take.l1, if_pos (by omega), if_pos (by omega), if_pos (by rw [tkOf_length]; omega), tkOf_rd _ _ i hi, rdI L i hi, j3, j3, hw, ei, eo]
  by_cases c : (i : Int) ∈ S
  ·rw [if_pos (decide_eq_true c), if_pos (by omega), if_pos c, List.filter_cons_of_pos (p := fun j => decide (j ∈ S)) (decide_eq_true c)]
   by_cases g : L[i].f1 - 1 > 0
   ·rw [if_pos g, List.filter_cons_of_pos (by unfold keepI decI; exact decide_eq_true (by simp only; omega))]
    refine (ih k (i + 1) _ _ (by omega) (by omega) (by omega) (by rw [List.length_append, List.length_singleton]; omega) (by rw [List.length_append, List.length_singleton]; omega)).trans ?_
    simp only [factsI, List.map_cons, List.append_assoc, List.singleton_append, rdI L i hi]
    rfl
   ·rw [if_neg g, List.filter_cons_of_neg (by unfold keepI decI; simp only [decide_eq_true_eq]; omega)]
    refine (ih k (i + 1) _ _ (by omega) (by omega) (by omega) (by rw [List.length_append, List.length_singleton]; omega) (by omega)).trans ?_
    simp only [factsI, List.map_cons, List.append_assoc, List.singleton_append, rdI L i hi]
  ·rw [if_neg (by rw [decide_eq_true_eq]; exact c), if_neg c, List.filter_cons_of_neg (p := fun j => decide (j ∈ S)) (by rw [decide_eq_true_eq]; exact c), if_pos (by omega), List.filter_cons_of_pos (by unfold keepI; exact decide_eq_true (by omega))]
   refine (ih k (i + 1) _ _ (by omega) (by omega) (by omega) (by omega) (by rw [List.length_append, List.length_singleton]; omega)).trans ?_
   simp only [List.append_assoc, List.singleton_append]
theorem rounds_loop (L : List S42) (hk4 : ∀ y ∈ L, 1 ≤ y.f1 ∧ y.f1 ≤ 4) (hL : L.length ≤ 1000) (most : Int) (d : Nat) : ∀ (k m : Nat), m ≤ howI L most → howI L most - m = d → d + 2 * L.length + 3 < k → spec_l5Take.l0 k L most (tkOf L.length ((ordI L).take m)) (m : Int) = some (TF L (pickI L most), TR L (pickI L most)) := by
 have hM := howI_le L most
 have fin : ∀ k, 2 * L.length + 1 < k → spec_l5Take.j1 k L (tkOf L.length ((ordI L).take (howI L most))) = some (TF L (pickI L most), TR L (pickI L most)) := by
  intro k hk
  obtain ⟨k, rfl⟩ : ∃ m, k = m + 1 := ⟨k - 1, by omega⟩
  rw [spec_l5Take.j1]
  exact left_loop L hk4 (pickI L most) hL L.length k 0 [] [] (by omega) (by omega) (by omega) (by simp) (by simp)
 have hle : (howI L most : Int) = mx 0 (mn most (L.length : Int)) := by unfold howI mx mn; omega
 induction d with
 | zero =>
  intro k m h0 h1 h2
  obtain ⟨k, rfl⟩ : ∃ q, k = q + 1 := ⟨k - 1, by omega⟩
  obtain rfl : m = howI L most := by omega
  rw [spec_l5Take.l0]
  by_cases c : ((howI L most : Nat) : Int) < most
  ·rw [if_pos c, next_f L hL _ k (by omega), dif_neg (by rw [ordI_length]; unfold mx mn at hle; omega), Option.bind_some, if_pos (by omega)]
   exact fin k (by omega)
  ·rw [if_neg c]
   exact fin k (by omega)
 | succ d ih =>
  intro k m h0 h1 h2
  obtain ⟨k, rfl⟩ : ∃ q, k = q + 1 := ⟨k - 1, by omega⟩
  have hm : m < (ordI L).length := by rw [ordI_length]; omega
  have hr := (ordI_mem L _).1 (List.getElem_mem hm)
  obtain ⟨t, ht⟩ : ∃ t : Nat, (ordI L)[m] = (t : Int) := ⟨(ordI L)[m].toNat, by omega⟩
  have c : (m : Int) < most := by unfold mx mn at hle; omega
  clear hle
  have this := ih k (m + 1) (by omega) (by omega) (by omega)
  have hk : L.length < k := by omega
  have b1 : ¬ (t : Int) < 0 := by omega
  have b2 : (0 : Int) ≤ (t : Int) := by omega
  have b3 : (t : Int) < ((tkOf L.length ((ordI L).take m)).length : Int) := by rw [tkOf_length]; omega
  have w1 : wrap64 ((m : Int) + 1) = ((m + 1 : Nat) : Int) := by rw [w64 (by omega) (by omega)]; omega
  rw [spec_l5Take.l0, if_pos c, next_f L hL _ k hk, dif_pos hm, Option.bind_some, ht, if_neg b1, if_pos b2, if_pos b3, Int.toNat_natCast, tkOf_set, ← ht, w1]
  rw [List.take_succ_eq_append_getElem hm] at this
  exact this
theorem s_take (L : List S42) (hL : L.length ≤ 1000000000000) (most : Int) (k : Nat) (hk : 3 * L.length + 3 < k) : spec_CastTake.f k L most = some (takeF L most, takeR L most) := by
 unfold spec_CastTake.f
 rw [s_cast L hL k (by omega), Option.bind_some]
 unfold takeF takeR
 cases hc : cOk L
 ·rfl
 ·have h8 : (L.length : Int) ≤ 8 := by have := castB_le (-1) L hc (by omega) (by omega); omega
  have h4 := castB_left (-1) L hc
  rw [if_pos rfl, if_pos rfl, if_pos rfl]
  unfold spec_l5Take.f
  rw [if_pos (by omega), if_pos (by omega), Int.toNat_natCast, ← tkOf_nil]
  have := rounds_loop L h4 (by omega) most (howI L most) k 0 (by omega) (by omega) (by have := howI_le L most; omega)
  rw [List.take_zero] at this
  rw [show (0 : Int) = ((0 : Nat) : Int) from rfl, this]
  rfl
theorem takeF_length (L : List S42) (m : Int) : (takeF L m).length ≤ L.length := by
 unfold takeF TF factsI
 split
 ·rw [List.length_map]
  exact Nat.le_trans (List.length_filter_le _ _) (by rw [idx_length]; exact Nat.le_refl _)
 ·simp
theorem takeR_length (L : List S42) (m : Int) : (takeR L m).length ≤ L.length := by
 unfold takeR TR
 split
 ·exact Nat.le_trans (List.length_filter_le _ _) (by rw [ownI_length]; exact Nat.le_refl _)
 ·simp
theorem fact_ok (b : List Int) (p site : Int) (hR : Rdr b p) (hp : p ≤ 100000) : ∃ n i s g q, Rdr b q ∧ q ≤ p + 5 ∧ ∀ k, 1 ≤ k → spec_l61Fact.f k b p site = some (n, i, s, g, q) := by
 obtain ⟨v1, a1, b1, -, h1⟩ := pick_ok b p 4 hR (by omega)
 have R1 := rdr_next hR
 obtain ⟨v2, a2, b2, -, h2⟩ := pick_ok b (p + 1) 3 R1 (by omega)
 have R2 := rdr_next R1
 obtain ⟨v3, a3, b3, -, h3⟩ := pick_ok b (p + 1 + 1) 12 R2 (by omega)
 have R3 := rdr_next R2
 obtain ⟨v4, a4, b4, -, h4⟩ := pick_ok b (p + 1 + 1 + 1) 3 R3 (by omega)
 have R4 := rdr_next R3
 obtain ⟨v5, a5, b5, -, h5⟩ := pick_ok b (p + 1 + 1 + 1 + 1) 4 R4 (by omega)
 have b4 := b4 (by omega)
 refine ⟨wrap64 (wrap64 (site * 4) + v1), rd [v2, v3, 999] v4, wrap64 (1 + v5), decide (Int.tmod (wrap64 (wrap64 (site * 4) + v1)) 4 < 3), p + 1 + 1 + 1 + 1 + 1, rdr_next R4, by omega, fun k hk => ?_⟩
 simp only [spec_l61Fact.f, h1 k hk, h2 k hk, h3 k hk, h4 k hk, h5 k hk, Option.bind_some, spec_l51Gate.f]
 rw [if_pos a4, if_pos (by simp; omega)]
theorem anyFact_ok (b : List Int) (p : Int) (hR : Rdr b p) (hp : p ≤ 90000) : ∃ n i s g q, Rdr b q ∧ q ≤ p + 8 ∧ ∀ k, 1 ≤ k → spec_l61AnyFact.f k b p = some (n, i, s, g, q) := by
 obtain ⟨v0, a0, b0, -, h0⟩ := pick_ok b p 2 hR (by omega)
 obtain ⟨n, i, s, g, q, R0, hq, hf⟩ := fact_ok b (p + 1) v0 (rdr_next hR) (by omega)
 obtain ⟨v1, a1, b1, -, h1⟩ := pick_ok b q 12 R0 (by omega)
 have R1 := rdr_next R0
 obtain ⟨v2, a2, b2, -, h2⟩ := pick_ok b (q + 1) 2 R1 (by omega)
 have R2 := rdr_next R1
 have b2 := b2 (by omega)
 by_cases c0 : v1 = 0
 ·refine ⟨rd [-1, 8] v2, i, s, g, q + 1 + 1, R2, by omega, fun k hk => ?_⟩
  simp only [spec_l61AnyFact.f, h0 k hk, hf k hk, h1 k hk, h2 k hk, Option.bind_some]
  rw [if_pos c0, if_pos a2, if_pos (by simp; omega)]
 ·by_cases c1 : v1 = 1
  ·refine ⟨n, rd [-1, 1000] v2, s, g, q + 1 + 1, R2, by omega, fun k hk => ?_⟩
   simp only [spec_l61AnyFact.f, h0 k hk, hf k hk, h1 k hk, h2 k hk, Option.bind_some]
   rw [if_neg c0, if_pos c1, if_pos a2, if_pos (by simp; omega)]
  ·by_cases c2 : v1 = 2
   ·refine ⟨n, i, rd [0, 5] v2, g, q + 1 + 1, R2, by omega, fun k hk => ?_⟩
    simp only [spec_l61AnyFact.f, h0 k hk, hf k hk, h1 k hk, h2 k hk, Option.bind_some]
    rw [if_neg c0, if_neg c1, if_pos c2, if_pos a2, if_pos (by simp; omega)]
   ·by_cases c3 : v1 = 3
    ·refine ⟨n, i, s, !g, q + 1, R1, by omega, fun k hk => ?_⟩
     simp only [spec_l61AnyFact.f, h0 k hk, hf k hk, h1 k hk, Option.bind_some]
     rw [if_neg c0, if_neg c1, if_neg c2, if_pos c3]
    ·refine ⟨n, i, s, g, q + 1, R1, by omega, fun k hk => ?_⟩
     simp only [spec_l61AnyFact.f, h0 k hk, hf k hk, h1 k hk, Option.bind_some]
     rw [if_neg c0, if_neg c1, if_neg c2, if_neg c3]
/-! a fact put into a drawn table: it answers, and by one fact more at most -/
theorem s_find_ok (l : List S40) (a : Int) (hl : l.length ≤ 1000) (d : Nat) : ∀ n : Nat, n ≤ l.length → l.length - n = d → ∃ r : Int, r < (l.length : Int) ∧ ∀ k, d < k → spec_l3Find.l0 k l a (n : Int) = some r := by
 induction d with
 | zero =>
  intro n h0 h1
  refine ⟨-1, by omega, fun k hk => ?_⟩
  obtain ⟨k, rfl⟩ : ∃ m, k = m + 1 := ⟨k - 1, by omega⟩
  simp only [spec_l3Find.l0]; rw [if_neg (by omega)]
 | succ d ih =>
  intro n h0 h1
  have hn : n < l.length := by omega
  obtain ⟨r, h2, h3⟩ := ih (n + 1) (by omega) (by omega)
  by_cases e : (rd_T40 l (n : Int)).f0 = a
  ·refine ⟨n, by omega, fun k hk => ?_⟩
   obtain ⟨k, rfl⟩ : ∃ m, k = m + 1 := ⟨k - 1, by omega⟩
   simp only [spec_l3Find.l0]; rw [if_pos (by omega), if_pos (by omega), if_pos e]
  ·refine ⟨r, h2, fun k hk => ?_⟩
   obtain ⟨k, rfl⟩ : ∃ m, k = m + 1 := ⟨k - 1, by omega⟩
   have h4 := h3 k (by omega)
   have w1 : wrap64 ((n : Int) + 1) = ((n + 1 : Nat) : Int) := by rw [w64 (by omega) (by omega)]; omega
   simp only [spec_l3Find.l0, w1]; rw [if_pos (by omega), if_pos (by omega), if_neg e]
   exact h4
theorem s_over_ok (n i s : Int) (f : Bool) (n' i' s' : Int) (g : Bool) : ∃ c, spec_l3Over.f n i s f n' i' s' g = some c := by
 unfold spec_l3Over.f
 repeat' split
 all_goals exact ⟨_, rfl⟩
theorem s_ins_ok (l : List S40) (x : S40) (hl : l.length ≤ 1000) (d : Nat) : ∀ n : Nat, n ≤ l.length → l.length - n = d → ∃ r : List S40, r.length ≤ l.length + 1 ∧ ∀ k, 2 * d + 1 < k → spec_l3Put.l0 k l (n : Int) x.f0 x.f1 x.f2 x.f3 = some (r, true) := by
 have he : ∀ (n k : Nat), n ≤ l.length → spec_l3Put.j1 (k + 1) l (n : Int) false x.f0 x.f1 x.f2 x.f3 = some (l.take n ++ [x] ++ l.drop n, true) := fun n k hn => by
  simp only [spec_l3Put.j1, Bool.false_eq_true, if_false, Option.bind_some, Int.toNat_natCast, List.nil_append]
  rw [if_pos (by omega), if_pos (by omega), if_pos (by simp only [List.length_nil, List.length_take]; omega), if_pos (by simp only [List.length_take, List.length_singleton]; omega), if_pos (by simp only [List.length_append, List.length_take, List.length_singleton, List.length_drop]; omega)]
 have hlen : ∀ n, n ≤ l.length → (l.take n ++ [x] ++ l.drop n).length ≤ l.length + 1 := fun n hn => by
  simp only [List.length_append, List.length_take, List.length_singleton, List.length_drop]; omega
 induction d with
 | zero =>
  intro n h0 h1
  refine ⟨_, hlen n h0, fun k hk => ?_⟩
  obtain ⟨k, rfl⟩ : ∃ m, k = m + 2 := ⟨k - 2, by omega⟩
  simp only [spec_l3Put.l0]
  rw [if_neg (by omega)]
  exact he n k h0
 | succ d ih =>
  intro n h0 h1
  have hn : n < l.length := by omega
  obtain ⟨r, h2, h3⟩ := ih (n + 1) (by omega) (by omega)
  by_cases e : (rd_T40 l (n : Int)).f0 < x.f0
  ·refine ⟨r, h2, fun k hk => ?_⟩
   obtain ⟨k, rfl⟩ : ∃ m, k = m + 2 := ⟨k - 2, by omega⟩
   have h4 := h3 k (by omega)
   have w1 : wrap64 ((n : Int) + 1) = ((n + 1 : Nat) : Int) := by rw [w64 (by omega) (by omega)]; omega
   simp only [spec_l3Put.l0, decide_eq_true e]
   rw [if_pos (by omega), if_pos (by omega)]
   simp only [spec_l3Put.j1, if_true, w1]
   exact h4
  ·refine ⟨_, hlen n h0, fun k hk => ?_⟩
   obtain ⟨k, rfl⟩ : ∃ m, k = m + 2 := ⟨k - 2, by omega⟩
   simp only [spec_l3Put.l0, decide_eq_false e]
   rw [if_pos (by omega), if_pos (by omega)]
   exact he n k h0
theorem s_put_ok (l : List S40) (x : S40) (hl : l.length ≤ 1000) : ∃ r : List S40 × Bool, r.1.length ≤ l.length + 1 ∧ ∀ k, 2 * l.length + 1 < k → spec_l3Put.f k l x.f0 x.f1 x.f2 x.f3 = some r := by
 obtain ⟨i, hi, hf⟩ := s_find_ok l x.f0 hl l.length 0 (by omega) (by omega)
 have hf2 : ∀ k, l.length < k → spec_l3Find.f k l x.f0 = some i := hf
 by_cases h : i ≥ 0
 ·obtain ⟨c, hc⟩ := s_over_ok x.f0 x.f1 x.f2 x.f3 (rd_T40 l i).f0 (rd_T40 l i).f1 (rd_T40 l i).f2 (rd_T40 l i).f3
  cases c
  ·refine ⟨(l, false), by simp, fun k hk => ?_⟩
   simp only [spec_l3Put.f, hf2 k (by omega), Option.bind_some, hc]
   rw [if_pos h, if_pos h, if_pos (by omega)]; rfl
  ·refine ⟨(l.set i.toNat x, true), by simp, fun k hk => ?_⟩
   simp only [spec_l3Put.f, hf2 k (by omega), Option.bind_some, hc, List.nil_append, List.length_nil, Nat.zero_add]
   rw [if_pos h, if_pos h, if_pos (by omega), if_pos trivial, if_pos (by omega), if_pos (by omega)]
 ·obtain ⟨r, h1, h2⟩ := s_ins_ok l x hl l.length 0 (by omega) (by omega)
  refine ⟨(r, true), h1, fun k hk => ?_⟩
  simp only [spec_l3Put.f, hf2 k (by omega), Option.bind_some]
  rw [if_neg h]
  exact h2 k hk
/-! tables drawn -/
theorem table_loop (b : List Int) (d : Nat) : ∀ (t : List S40) (p : Int), t.length + d ≤ 100 → Rdr b p → p ≤ 80000 - 7 * d → ∃ t' q, t'.length ≤ t.length + d ∧ Rdr b q ∧ q ≤ p + 7 * d ∧ ∀ k, 2 * t.length + 3 * d + 2 < k → spec_l61Table.l0 k (-1) t (d : Int) b p = some (t', q) := by
 induction d with
 | zero =>
  intro t p h1 hR hp
  refine ⟨t, p, by omega, hR, by omega, fun k hk => ?_⟩
  obtain ⟨k, rfl⟩ : ∃ m, k = m + 1 := ⟨k - 1, by omega⟩
  simp only [spec_l61Table.l0]; rw [if_neg (by omega)]
 | succ d ih =>
  intro t p h1 hR hp
  obtain ⟨v, a1, b1, -, hv⟩ := pick_ok b p 2 hR (by omega)
  obtain ⟨n, i, s, g, q, Rq, hq, hf⟩ := fact_ok b (p + 1) v (rdr_next hR) (by omega)
  obtain ⟨z, hl, hz⟩ := s_put_ok t ⟨n, i, s, g⟩ (by omega)
  obtain ⟨t', q', g1, g2, g3, g4⟩ := ih z.1 q (by omega) Rq (by omega)
  refine ⟨t', q', by omega, g2, by omega, fun k hk => ?_⟩
  obtain ⟨k, rfl⟩ : ∃ m, k = m + 1 := ⟨k - 1, by omega⟩
  have hp := hz k (by omega)
  dsimp only at hp
  have w1 : wrap64 (((d + 1 : Nat) : Int) - 1) = (d : Int) := by rw [w64 (by omega) (by omega)]; omega
  simp only [spec_l61Table.l0, hv k (by omega), hf k (by omega), hp, Option.bind_some, w1]
  rw [if_pos (by omega), if_pos (by decide)]
  exact g4 k (by omega)
theorem table_ok (b : List Int) (p : Int) (hR : Rdr b p) (hp : p ≤ 70000) : ∃ t q, t.length ≤ 5 ∧ Rdr b q ∧ q ≤ p + 40 ∧ ∀ k, 20 ≤ k → spec_l61Table.f k b p (-1) = some (t, q) := by
 obtain ⟨v, a1, b1, -, hv⟩ := pick_ok b p 6 hR (by omega)
 have b1 := b1 (by omega)
 obtain ⟨t, q, g1, g2, g3, g4⟩ := table_loop b v.toNat [] (p + 1) (by simp; omega) (rdr_next hR) (by omega)
 refine ⟨t, q, by simp at g1; omega, g2, by omega, fun k hk => ?_⟩
 simp only [spec_l61Table.f, hv k (by omega), Option.bind_some]
 have := g4 k (by simp; omega)
 rwa [Int.toNat_of_nonneg a1] at this
/-! items drawn -/
theorem items_loop (b : List Int) (t : List S40) (ht : t.length ≤ 100) (d : Nat) : ∀ (n : Nat) (acc : List S42) (p : Int), n ≤ t.length → t.length - n = d → acc.length = n → Rdr b p → p ≤ 80000 - d → ∃ r q, r.length = t.length ∧ Rdr b q ∧ q ≤ p + d ∧ ∀ k, d < k → spec_l61Items.l0 k acc t (n : Int) b p = some (r, q) := by
 induction d with
 | zero =>
  intro n acc p h0 h1 h2 hR hp
  refine ⟨acc, p, by omega, hR, by omega, fun k hk => ?_⟩
  obtain ⟨k, rfl⟩ : ∃ m, k = m + 1 := ⟨k - 1, by omega⟩
  simp only [spec_l61Items.l0]; rw [if_neg (by omega)]
 | succ d ih =>
  intro n acc p h0 h1 h2 hR hp
  have hn : n < t.length := by omega
  obtain ⟨v, a1, b1, -, hv⟩ := pick_ok b p 4 hR (by omega)
  have w1 : wrap64 ((n : Int) + 1) = ((n + 1 : Nat) : Int) := by rw [w64 (by omega) (by omega)]; omega
  obtain ⟨r, q, g1, g2, g3, g4⟩ := ih (n + 1) (acc ++ [⟨⟨(rd_T40 t (n : Int)).f0, (rd_T40 t (n : Int)).f1, (rd_T40 t (n : Int)).f2, (rd_T40 t (n : Int)).f3⟩, wrap64 (1 + v)⟩]) (p + 1) (by omega) (by omega) (by rw [List.length_append, List.length_singleton]; omega) (rdr_next hR) (by omega)
  refine ⟨r, q, g1, g2, by omega, fun k hk => ?_⟩
  obtain ⟨k, rfl⟩ : ∃ m, k = m + 1 := ⟨k - 1, by omega⟩
  simp only [spec_l61Items.l0, hv k (by omega), Option.bind_some, w1]
  rw [if_pos (by omega), if_pos (by omega), if_pos (by omega)]
  exact g4 k (by omega)
theorem items_ok (b : List Int) (p : Int) (hR : Rdr b p) (hp : p ≤ 60000) : ∃ t q, t.length ≤ 5 ∧ Rdr b q ∧ q ≤ p + 50 ∧ ∀ k, 20 ≤ k → spec_l61Items.f k b p (-1) = some (t, q) := by
 obtain ⟨t, q, h1, Rq, hq, hf⟩ := table_ok b p hR (by omega)
 obtain ⟨r, q', g1, g2, g3, g4⟩ := items_loop b t (by omega) t.length 0 [] q (by omega) (by omega) rfl Rq (by omega)
 refine ⟨r, q', by omega, g2, by omega, fun k hk => ?_⟩
 simp only [spec_l61Items.f, hf k hk, Option.bind_some]
 exact g4 k (by omega)
theorem anyItems_ok (b : List Int) (p : Int) (hR : Rdr b p) (hp : p ≤ 50000) : ∃ t q, t.length ≤ 6 ∧ Rdr b q ∧ q ≤ p + 80 ∧ ∀ k, 21 ≤ k → spec_l61AnyItems.f k b p = some (t, q) := by
 obtain ⟨t, q, h1, Rq, hq, hf⟩ := items_ok b p hR (by omega)
 by_cases h0 : (t.length : Int) > 0
 ·obtain ⟨v, a1, b1, -, hv⟩ := pick_ok b q 10 Rq (by omega)
  have R1 := rdr_next Rq
  cases hc : (v == 0)
  ·refine ⟨t, q + 1, by omega, R1, by omega, fun k hk => ?_⟩
   obtain ⟨k, rfl⟩ : ∃ m, k = m + 1 := ⟨k - 1, by omega⟩
   simp only [spec_l61AnyItems.f, hf (k + 1) (by omega), hv (k + 1) (by omega), Option.bind_some, hc, spec_l61AnyItems.j0]
   rw [if_pos h0, if_neg (by decide)]
  ·obtain ⟨i, a2, b2, -, hi⟩ := pick_ok b (q + 1) (t.length : Int) R1 (by omega)
   have b2 := b2 h0
   have R2 := rdr_next R1
   obtain ⟨c, a3, b3, -, hcc⟩ := pick_ok b (q + 1 + 1) 3 R2 (by omega)
   have R3 := rdr_next R2
   obtain ⟨u, a4, b4, -, hu⟩ := pick_ok b (q + 1 + 1 + 1) 2 R3 (by omega)
   have b4 := b4 (by omega)
   have R4 := rdr_next R3
   obtain ⟨n, j, s, g, q', Rq', hq', hff⟩ := anyFact_ok b (q + 1 + 1 + 1) R3 (by omega)
   by_cases e0 : c = 0
   ·refine ⟨t.set i.toNat ⟨⟨(rd_T42 t i).f0.f0, (rd_T42 t i).f0.f1, (rd_T42 t i).f0.f2, (rd_T42 t i).f0.f3⟩, rd [0, 5] u⟩, q + 1 + 1 + 1 + 1, by simp only [List.length_set]; omega, R4, by omega, fun k hk => ?_⟩
    obtain ⟨k, rfl⟩ : ∃ m, k = m + 1 := ⟨k - 1, by omega⟩
    simp only [spec_l61AnyItems.f, hf (k + 1) (by omega), hv (k + 1) (by omega), Option.bind_some, hc, spec_l61AnyItems.j0, hi k (by omega), hcc k (by omega), hu k (by omega)]
    rw [if_pos h0, if_pos trivial, if_pos e0, if_pos a4, if_pos (by simp; omega), if_pos a2, if_pos b2]
   ·by_cases e1 : c = 1
    ·refine ⟨t.set i.toNat ⟨⟨n, j, s, g⟩, (rd_T42 t i).f1⟩, q', by simp only [List.length_set]; omega, Rq', by omega, fun k hk => ?_⟩
     obtain ⟨k, rfl⟩ : ∃ m, k = m + 1 := ⟨k - 1, by omega⟩
     simp only [spec_l61AnyItems.f, hf (k + 1) (by omega), hv (k + 1) (by omega), Option.bind_some, hc, spec_l61AnyItems.j0, hi k (by omega), hcc k (by omega), hff k (by omega)]
     rw [if_pos h0, if_pos trivial, if_neg e0, if_pos e1, if_pos a2, if_pos b2]
    ·refine ⟨t ++ [⟨⟨(rd_T42 t i).f0.f0, (rd_T42 t i).f0.f1, (rd_T42 t i).f0.f2, (rd_T42 t i).f0.f3⟩, (rd_T42 t i).f1⟩], q + 1 + 1 + 1, by simp only [List.length_append, List.length_singleton]; omega, R3, by omega, fun k hk => ?_⟩
     obtain ⟨k, rfl⟩ : ∃ m, k = m + 1 := ⟨k - 1, by omega⟩
     simp only [spec_l61AnyItems.f, hf (k + 1) (by omega), hv (k + 1) (by omega), Option.bind_some, hc, spec_l61AnyItems.j0, hi k (by omega), hcc k (by omega)]
     rw [if_pos h0, if_pos trivial, if_neg e0, if_neg e1, if_pos a2, if_pos b2, if_pos (by omega)]
 ·refine ⟨t, q, by omega, Rq, by omega, fun k hk => ?_⟩
  obtain ⟨k, rfl⟩ : ∃ m, k = m + 1 := ⟨k - 1, by omega⟩
  simp only [spec_l61AnyItems.f, hf (k + 1) (by omega), Option.bind_some, spec_l61AnyItems.j0]
  rw [if_neg h0, if_neg (by decide)]
theorem lhI_loop (l : List S42) (hl : l.length ≤ 1000000000000) (d : Nat) : ∀ (k n : Nat), n ≤ l.length → l.length - n = d → d < k → laws_lhItems.l0 k l l (n : Int) = some true := by
 induction d with
 | zero =>
  intro k n h0 h1 h2
  obtain ⟨k, rfl⟩ : ∃ m, k = m + 1 := ⟨k - 1, by omega⟩
  simp only [laws_lhItems.l0]; rw [if_neg (by omega)]
 | succ d ih =>
  intro k n h0 h1 h2
  obtain ⟨k, rfl⟩ : ∃ m, k = m + 1 := ⟨k - 1, by omega⟩
  have ih' := ih k (n + 1) (by omega) (by omega) (by omega)
  have w1 : wrap64 ((n : Int) + 1) = ((n + 1 : Nat) : Int) := by rw [w64 (by omega) (by omega)]; omega
  simp only [laws_lhItems.l0, beq_self_eq_true, Bool.not_true, Bool.or_self, Bool.false_eq_true, if_false, w1]
  rw [if_pos (by omega), if_pos (by omega), if_pos (by omega)]
  exact ih'
theorem lhI (l : List S42) (hl : l.length ≤ 1000000000000) (k : Nat) (hk : l.length < k) : laws_lhItems.f k l l = some true := by
 simp only [laws_lhItems.f, if_true]
 exact lhI_loop l hl l.length k 0 (by omega) (by omega) hk
theorem lhF_loop (l : List S40) (hl : l.length ≤ 1000000000000) (d : Nat) : ∀ (k n : Nat), n ≤ l.length → l.length - n = d → d < k → laws_lhFacts.l0 k l l (n : Int) = some true := by
 induction d with
 | zero =>
  intro k n h0 h1 h2
  obtain ⟨k, rfl⟩ : ∃ m, k = m + 1 := ⟨k - 1, by omega⟩
  simp only [laws_lhFacts.l0]; rw [if_neg (by omega)]
 | succ d ih =>
  intro k n h0 h1 h2
  obtain ⟨k, rfl⟩ : ∃ m, k = m + 1 := ⟨k - 1, by omega⟩
  have ih' := ih k (n + 1) (by omega) (by omega) (by omega)
  have w1 : wrap64 ((n : Int) + 1) = ((n + 1 : Nat) : Int) := by rw [w64 (by omega) (by omega)]; omega
  simp only [laws_lhFacts.l0, beq_self_eq_true, Bool.not_true, Bool.or_self, Bool.false_eq_true, if_false, w1]
  rw [if_pos (by omega), if_pos (by omega), if_pos (by omega)]
  exact ih'
theorem lhF (l : List S40) (hl : l.length ≤ 1000000000000) (k : Nat) (hk : l.length < k) : laws_lhFacts.f k l l = some true := by
 simp only [laws_lhFacts.f, if_true]
 exact lhF_loop l hl l.length k 0 (by omega) (by omega) hk
/-! taken again and again: each as often as is left of it -/
theorem castB_pw : ∀ (p : Int) (l : List S42), castB p l = true → (∀ y ∈ l, p < y.f0.f0) ∧ l.Pairwise (fun a b => a.f0.f0 < b.f0.f0)
 | _, [], _ => ⟨by simp, List.Pairwise.nil⟩
 | p, x :: xs, h => by
  simp only [castB, Bool.and_eq_true, decide_eq_true_eq] at h
  obtain ⟨_, _, hp, hx⟩ := h
  obtain ⟨h1, h2⟩ := castB_pw x.f0.f0 xs hx
  refine ⟨fun y hy => ?_, List.pairwise_cons.2 ⟨h1, h2⟩⟩
  rcases List.mem_cons.1 hy with rfl | hy
  ·exact hp
  ·have := h1 y hy; omega
def selF : List S42 → List Bool → List S40
 | x :: xs, b :: bs => if b = true then x.f0 :: selF xs bs else selF xs bs
 | _, _ => []
def restR : List S42 → List Bool → List S42
 | x :: xs, b :: bs => if (if b = true then decI x else x).f1 ≠ 0 then (if b = true then decI x else x) :: restR xs bs else restR xs bs
 | _, _ => []
def leftOf (v : Int) : List S42 → Int
 | [] => 0
 | y :: ys => if y.f0.f0 = v then y.f1 else leftOf v ys
def cntF (v : Int) : List S40 → Int
 | [] => 0
 | y :: ys => if y.f0 = v then 1 + cntF v ys else cntF v ys
def sumL : List S42 → Int
 | [] => 0
 | y :: ys => y.f1 + sumL ys
theorem restR_f (x : S42) (xs : List S42) (bs : List Bool) : restR (x :: xs) (false :: bs) = if x.f1 ≠ 0 then x :: restR xs bs else restR xs bs := rfl
theorem restR_t (x : S42) (xs : List S42) (bs : List Bool) : restR (x :: xs) (true :: bs) = if x.f1 - 1 ≠ 0 then decI x :: restR xs bs else restR xs bs := rfl
theorem selF_f (x : S42) (xs : List S42) (bs : List Bool) : selF (x :: xs) (false :: bs) = selF xs bs := rfl
theorem selF_t (x : S42) (xs : List S42) (bs : List Bool) : selF (x :: xs) (true :: bs) = x.f0 :: selF xs bs := rfl
theorem leftOf_c (v : Int) (y : S42) (ys : List S42) : leftOf v (y :: ys) = if y.f0.f0 = v then y.f1 else leftOf v ys := rfl
theorem cntF_c (v : Int) (y : S40) (ys : List S40) : cntF v (y :: ys) = if y.f0 = v then 1 + cntF v ys else cntF v ys := rfl
theorem sel_drop (L : List S42) (S : List Int) (d : Nat) : ∀ i : Nat, i ≤ L.length → L.length - i = d → factsI L (((idx L.length).drop i).filter (fun j => decide (j ∈ S))) = selF (L.drop i) ((tkOf L.length S).drop i) ∧ ((ownI L S).drop i).filter keepI = restR (L.drop i) ((tkOf L.length S).drop i) := by
 induction d with
 | zero =>
  intro i h0 h1
  rw [show (idx L.length).drop i = [] from List.drop_of_length_le (by rw [idx_length]; omega), show (ownI L S).drop i = [] from List.drop_of_length_le (by rw [ownI_length]; omega), show L.drop i = [] from List.drop_of_length_le (by omega)]
  exact ⟨rfl, rfl⟩
 | succ d ih =>
  intro i h0 h1
  have hi : i < L.length := by omega
  obtain ⟨e1, e2⟩ := ih (i + 1) (by omega) (by omega)
  have et : (tkOf L.length S)[i]'(by rw [tkOf_length]; exact hi) = decide ((i : Int) ∈ S) := by simp [tkOf]
  rw [List.drop_eq_getElem_cons (show i < (idx L.length).length by rw [idx_length]; exact hi), idx_get, List.drop_eq_getElem_cons (show i < (ownI L S).length by rw [ownI_length]; exact hi), ownI_get, rdI L i hi, List.drop_eq_getElem_cons hi, List.drop_eq_getElem_cons (show i < (tkOf L.length S).length by rw [tkOf_length]; exact hi), et]
  simp only [selF, restR, ← e1, ← e2]
  by_cases c : (i : Int) ∈ S
  ·have hb : decide ((i : Int) ∈ S) = true := decide_eq_true c
   rw [List.filter_cons_of_pos (p := fun j => decide (j ∈ S)) hb]
   simp only [if_pos c, hb, if_true]
   refine ⟨by simp only [factsI, List.map_cons]; rw [rdI L i hi], ?_⟩
   by_cases g : (decI L[i]).f1 ≠ 0
   ·rw [if_pos g, List.filter_cons_of_pos (by unfold keepI; exact decide_eq_true g)]
   ·rw [if_neg g, List.filter_cons_of_neg (by unfold keepI; rw [decide_eq_true_eq]; exact g)]
  ·have hb : decide ((i : Int) ∈ S) = false := decide_eq_false c
   rw [List.filter_cons_of_neg (p := fun j => decide (j ∈ S)) (by rw [hb]; decide)]
   simp only [if_neg c, hb, Bool.false_eq_true, if_false, true_and]
   by_cases g : L[i].f1 ≠ 0
   ·rw [if_pos g, List.filter_cons_of_pos (by unfold keepI; exact decide_eq_true g)]
   ·rw [if_neg g, List.filter_cons_of_neg (by unfold keepI; rw [decide_eq_true_eq]; exact g)]
theorem take_sel (L : List S42) (m : Int) (hc : cOk L = true) : ∃ bs : List Bool, bs.length = L.length ∧ takeF L m = selF L bs ∧ takeR L m = restR L bs := by
 obtain ⟨e1, e2⟩ := sel_drop L (pickI L m) L.length 0 (by omega) (by omega)
 rw [List.drop_zero, List.drop_zero, List.drop_zero] at e1
 rw [List.drop_zero, List.drop_zero, List.drop_zero] at e2
 refine ⟨tkOf L.length (pickI L m), tkOf_length _ _, ?_, ?_⟩
 ·unfold takeF TF; rw [if_pos hc]; exact e1
 ·unfold takeR TR; rw [if_pos hc]; exact e2
theorem takeF_len (L : List S42) (m : Int) (hc : cOk L = true) : (takeF L m).length = howI L m := by
 unfold takeF TF factsI
 rw [if_pos hc, List.length_map]
 have h2 := congrArg List.length (sorted_pick L (howI L m))
 rw [srtK_length, List.length_take, ordI_length, Nat.min_eq_left (howI_le L m)] at h2
 exact h2.symm
theorem left_fok : ∀ (p : Int) (l : List S42), castB p l = true → ∀ y ∈ l, fok y.f0 = true
 | _, [], _, y, hy => by cases hy
 | p, x :: xs, h, y, hy => by
  simp only [castB, Bool.and_eq_true, decide_eq_true_eq] at h
  rcases List.mem_cons.1 hy with rfl | hy
  ·exact h.1
  ·exact left_fok x.f0.f0 xs h.2.2.2 y hy
theorem castB_low : ∀ (p q : Int) (l : List S42), castB q l = true → p ≤ q → castB p l = true
 | _, _, [], _, _ => rfl
 | p, q, x :: xs, h, hpq => by
  simp only [castB, Bool.and_eq_true, decide_eq_true_eq] at h ⊢
  exact ⟨h.1, h.2.1, by omega, h.2.2.2⟩
theorem rest_ok : ∀ (p : Int) (l : List S42) (bs : List Bool), castB p l = true → castB p (restR l bs) = true
 | _, [], [], _ => rfl
 | _, [], _ :: _, _ => rfl
 | _, _ :: _, [], _ => rfl
 | p, x :: xs, b :: bs, h => by
  simp only [castB, Bool.and_eq_true, decide_eq_true_eq] at h
  obtain ⟨hf, hl, hp, hx⟩ := h
  have ih := rest_ok x.f0.f0 xs bs hx
  simp only [inB, Bool.and_eq_true, decide_eq_true_eq] at hl
  cases b
  ·rw [restR_f, if_pos (by omega)]
   simp only [castB, inB, Bool.and_eq_true, decide_eq_true_eq]
   exact ⟨hf, hl, hp, ih⟩
  ·rw [restR_t]
   by_cases g : x.f1 - 1 ≠ 0
   ·rw [if_pos g]
    show (fok x.f0 && (inB (x.f1 - 1) 1 4 && (decide (p < x.f0.f0) && castB x.f0.f0 (restR xs bs)))) = true
    simp only [inB, Bool.and_eq_true, decide_eq_true_eq]
    exact ⟨hf, ⟨by omega, by omega⟩, hp, ih⟩
   ·rw [if_neg g]
    exact castB_low p x.f0.f0 _ ih (by omega)
theorem left_none : ∀ (v p : Int) (l : List S42), castB p l = true → v ≤ p → leftOf v l = 0
 | _, _, [], _, _ => rfl
 | v, p, x :: xs, h, hv => by
  simp only [castB, Bool.and_eq_true, decide_eq_true_eq] at h
  simp only [leftOf]
  rw [if_neg (by omega)]
  exact left_none v x.f0.f0 xs h.2.2.2 (by omega)
theorem cnt_none : ∀ (v p : Int) (l : List S42) (bs : List Bool), castB p l = true → v ≤ p → cntF v (selF l bs) = 0
 | _, _, [], [], _, _ => rfl
 | _, _, [], _ :: _, _, _ => rfl
 | _, _, _ :: _, [], _, _ => rfl
 | v, p, x :: xs, b :: bs, h, hv => by
  simp only [castB, Bool.and_eq_true, decide_eq_true_eq] at h
  have ih := cnt_none v x.f0.f0 xs bs h.2.2.2 (by omega)
  cases b
  ·rw [selF_f]; exact ih
  ·rw [selF_t, cntF_c, if_neg (by omega)]; exact ih
theorem told_left : ∀ (v p : Int) (l : List S42) (bs : List Bool), castB p l = true → bs.length = l.length → cntF v (selF l bs) + leftOf v (restR l bs) = leftOf v l
 | _, _, [], [], _, _ => rfl
 | _, _, [], _ :: _, _, h => by simp at h
 | _, _, _ :: _, [], _, h => by simp at h
 | v, p, x :: xs, b :: bs, h, hb => by
  simp only [castB, Bool.and_eq_true, decide_eq_true_eq] at h
  obtain ⟨hf, hl, hp, hx⟩ := h
  have ih := told_left v x.f0.f0 xs bs hx (by simpa using hb)
  simp only [inB, Bool.and_eq_true, decide_eq_true_eq] at hl
  rw [leftOf_c]
  by_cases e : x.f0.f0 = v
  ·have h1 := cnt_none v x.f0.f0 xs bs hx (by omega)
   have h2 := left_none v x.f0.f0 (restR xs bs) (rest_ok _ _ bs hx) (by omega)
   rw [if_pos e]
   cases b
   ·rw [selF_f, restR_f, if_pos (by omega), leftOf_c, if_pos e, h1]; omega
   ·rw [selF_t, restR_t, cntF_c, if_pos e, h1]
    by_cases g : x.f1 - 1 ≠ 0
    ·rw [if_pos g, leftOf_c]
     show 1 + 0 + (if x.f0.f0 = v then x.f1 - 1 else _) = x.f1
     rw [if_pos e]; omega
    ·rw [if_neg g, h2]; omega
  ·rw [if_neg e]
   cases b
   ·rw [selF_f, restR_f, if_pos (by omega), leftOf_c, if_neg e]; exact ih
   ·rw [selF_t, restR_t, cntF_c, if_neg e]
    by_cases g : x.f1 - 1 ≠ 0
    ·rw [if_pos g, leftOf_c]
     show cntF v (selF xs bs) + (if x.f0.f0 = v then x.f1 - 1 else leftOf v (restR xs bs)) = leftOf v xs
     rw [if_neg e]; exact ih
    ·rw [if_neg g]; exact ih
theorem told_sum : ∀ (l : List S42) (bs : List Bool), bs.length = l.length → ((selF l bs).length : Int) + sumL (restR l bs) = sumL l
 | [], [], _ => rfl
 | [], _ :: _, h => by simp at h
 | _ :: _, [], h => by simp at h
 | x :: xs, b :: bs, hb => by
  have ih := told_sum xs bs (by simpa using hb)
  cases b
  ·rw [selF_f, restR_f]
   by_cases g : x.f1 ≠ 0
   ·rw [if_pos g]; simp only [sumL]; omega
   ·rw [if_neg g]; simp only [sumL]; omega
  ·rw [selF_t, restR_t]
   by_cases g : x.f1 - 1 ≠ 0
   ·rw [if_pos g]; simp only [sumL, decI, List.length_cons]; omega
   ·rw [if_neg g]; simp only [sumL, List.length_cons]; omega
theorem sel_nodes : ∀ (p : Int) (l : List S42) (bs : List Bool), castB p l = true → ∀ y ∈ selF l bs, 0 ≤ y.f0 ∧ y.f0 ≤ 7
 | _, [], [], _, y, hy => by cases hy
 | _, [], _ :: _, _, y, hy => by cases hy
 | _, _ :: _, [], _, y, hy => by cases hy
 | p, x :: xs, b :: bs, h, y, hy => by
  simp only [castB, Bool.and_eq_true, decide_eq_true_eq] at h
  have ih := sel_nodes x.f0.f0 xs bs h.2.2.2
  cases b
  ·rw [selF_f] at hy; exact ih y hy
  ·rw [selF_t] at hy
   rcases List.mem_cons.1 hy with rfl | hy
   ·have := fok_node h.1; omega
   ·exact ih y hy
theorem left_at : ∀ (p : Int) (l : List S42) (i : Nat) (h : i < l.length), castB p l = true → leftOf l[i].f0.f0 l = l[i].f1
 | _, [], i, h, _ => by simp at h
 | p, x :: xs, 0, _, _ => by simp only [List.getElem_cons_zero, leftOf, if_true]
 | p, x :: xs, i + 1, h, hc => by
  simp only [castB, Bool.and_eq_true, decide_eq_true_eq] at hc
  have hi : i < xs.length := by simpa using h
  have h1 := (castB_pw x.f0.f0 xs hc.2.2.2).1 xs[i] (List.getElem_mem hi)
  simp only [List.getElem_cons_succ, leftOf]
  rw [if_neg (by omega)]
  exact left_at x.f0.f0 xs i hi hc.2.2.2
theorem left_le : ∀ (v p : Int) (l : List S42), castB p l = true → 0 ≤ leftOf v l ∧ leftOf v l ≤ 4
 | _, _, [], _ => by simp [leftOf]
 | v, p, x :: xs, h => by
  simp only [castB, inB, Bool.and_eq_true, decide_eq_true_eq] at h
  have ih := left_le v x.f0.f0 xs h.2.2.2
  simp only [leftOf]
  split
  ·omega
  ·exact ih
theorem sum_bd : ∀ (p : Int) (l : List S42), castB p l = true → (l.length : Int) ≤ sumL l ∧ sumL l ≤ 4 * (l.length : Int)
 | _, [], _ => by simp [sumL]
 | p, x :: xs, h => by
  simp only [castB, inB, Bool.and_eq_true, decide_eq_true_eq] at h
  have ih := sum_bd x.f0.f0 xs h.2.2.2
  simp only [sumL, List.length_cons]
  omega
theorem cnt_nonneg (v : Int) : ∀ l : List S40, 0 ≤ cntF v l
 | [] => by simp [cntF]
 | y :: ys => by
  have := cnt_nonneg v ys
  simp only [cntF]
  split <;> omega
theorem rd_setN (c : List Int) (a b : Nat) (x : Int) (ha : a < c.length) (hb : b < c.length) : rd (c.set a x) (b : Int) = if a = b then x else rd c (b : Int) := by
 rw [rdD _ b (by rw [List.length_set]; exact hb), List.getElem_set, rdD c b hb]
theorem count_loop (L : List S42) (m n : Int) (hn : 0 ≤ n ∧ n ≤ 1000) (F : List S40) (R : List S42) (hF : F.length ≤ 1000) (hN : ∀ y ∈ F, 0 ≤ y.f0 ∧ y.f0 ≤ 7) (d : Nat) : ∀ (k j : Nat) (c : List Int), c.length = 8 → j ≤ F.length → F.length - j = d → d < k → (∀ v : Nat, v < 8 → 0 ≤ rd c (v : Int) ∧ rd c (v : Int) + cntF (v : Int) (F.drop j) ≤ 1000) →
  ∃ c', c'.length = 8 ∧ (∀ v : Nat, v < 8 → rd c' (v : Int) = rd c (v : Int) + cntF (v : Int) (F.drop j)) ∧ laws_FnCastAll.l1 k L m c n F R (j : Int) = laws_FnCastAll.l0 (k - d - 1) L m c' R (n + 1) := by
 induction d with
 | zero =>
  intro k j c hc h0 h1 h2 hv
  obtain ⟨k, rfl⟩ : ∃ m, k = m + 1 := ⟨k - 1, by omega⟩
  have wn : wrap64 (n + 1) = n + 1 := w64 (by omega) (by omega)
  refine ⟨c, hc, fun v h => ?_, ?_⟩
  ·rw [List.drop_of_length_le (by omega)]; simp [cntF]
  ·simp only [laws_FnCastAll.l1, wn]
   rw [if_neg (by omega), show k + 1 - 0 - 1 = k by omega]
 | succ d ih =>
  intro k j c hc h0 h1 h2 hv
  obtain ⟨k, rfl⟩ : ∃ m, k = m + 1 := ⟨k - 1, by omega⟩
  have hj : j < F.length := by omega
  obtain ⟨n0, n7⟩ := hN F[j] (List.getElem_mem hj)
  obtain ⟨q, hq⟩ : ∃ q : Nat, F[j].f0 = (q : Int) := ⟨F[j].f0.toNat, by omega⟩
  have hq8 : q < 8 := by omega
  have hd : F.drop j = F[j] :: F.drop (j + 1) := List.drop_eq_getElem_cons hj
  have hvq := hv q hq8
  have hcn := cnt_nonneg (q : Int) (F.drop (j + 1))
  rw [hd] at hvq
  simp only [cntF] at hvq
  rw [if_pos hq] at hvq
  have hup : ∀ v : Nat, v < 8 → rd (c.set q (rd c (q : Int) + 1)) (v : Int) + cntF (v : Int) (F.drop (j + 1)) = rd c (v : Int) + cntF (v : Int) (F.drop j) ∧ 0 ≤ rd (c.set q (rd c (q : Int) + 1)) (v : Int) := fun v h => by
   rw [hd, rd_setN c q v _ (by omega) (by omega)]
   simp only [cntF]
   by_cases e : q = v
   ·subst e
    rw [if_pos rfl, if_pos hq]
    omega
   ·rw [if_neg e, if_neg (by omega)]
    exact ⟨rfl, (hv v h).1⟩
  obtain ⟨c', g1, g2, g3⟩ := ih k (j + 1) (c.set q (rd c (q : Int) + 1)) (by rw [List.length_set]; exact hc) (by omega) (by omega) (by omega) (fun v h => ⟨(hup v h).2, by rw [(hup v h).1]; exact (hv v h).2⟩)
  refine ⟨c', g1, fun v h => by rw [g2 v h, (hup v h).1], ?_⟩
  have b1 : (q : Int) < (c.length : Int) := by omega
  have b2 : (0 : Int) ≤ (q : Int) := by omega
  have b3 : (j : Int) < (F.length : Int) := by omega
  have b4 : (0 : Int) ≤ (j : Int) := by omega
  have e5 : k + 1 - (d + 1) - 1 = k - d - 1 := by omega
  have wc : wrap64 (rd c (q : Int) + 1) = rd c (q : Int) + 1 := w64 (by omega) (by omega)
  have wj : wrap64 ((j : Int) + 1) = ((j + 1 : Nat) : Int) := by rw [w64 (by omega) (by omega)]; omega
  simp only [laws_FnCastAll.l1, rdF F j hj, hq, wc, wj, Int.toNat_natCast]
  rw [if_pos b3, if_pos b4, if_pos b2, if_pos b1, e5]
  exact g3
theorem same_loop (L : List S42) (c : List Int) (hc : cOk L = true) (hL : L.length ≤ 1000) (hl : c.length = 8) (hv : ∀ v : Nat, v < 8 → rd c (v : Int) = leftOf (v : Int) L) (d : Nat) : ∀ (k i : Nat), i ≤ L.length → L.length - i = d → d < k → laws_FnCastAll.l2 k L c [] (i : Int) = some true := by
 induction d with
 | zero =>
  intro k i h0 h1 h2
  obtain ⟨k, rfl⟩ : ∃ m, k = m + 1 := ⟨k - 1, by omega⟩
  simp only [laws_FnCastAll.l2]
  rw [if_neg (by omega)]
  rfl
 | succ d ih =>
  intro k i h0 h1 h2
  obtain ⟨k, rfl⟩ : ∃ m, k = m + 1 := ⟨k - 1, by omega⟩
  have hi : i < L.length := by omega
  have hn : 0 ≤ L[i].f0.f0 ∧ L[i].f0.f0 ≤ 7 := by
   have h4 := (castB_pw (-1) L hc).1 L[i] (List.getElem_mem hi)
   have h5 := left_fok (-1) L hc L[i] (List.getElem_mem hi)
   have := fok_node h5
   omega
  obtain ⟨q, hq⟩ : ∃ q : Nat, L[i].f0.f0 = (q : Int) := ⟨L[i].f0.f0.toNat, by omega⟩
  have h6 := left_at (-1) L i hi hc
  rw [hq] at h6
  have h7 := (hv q (by omega)).trans h6
  have ih' := ih k (i + 1) (by omega) (by omega) (by omega)
  have b1 : (q : Int) < (c.length : Int) := by omega
  have b2 : (0 : Int) ≤ (q : Int) := by omega
  have b3 : (i : Int) < (L.length : Int) := by omega
  have b4 : (0 : Int) ≤ (i : Int) := by omega
  have wi : wrap64 ((i : Int) + 1) = ((i + 1 : Nat) : Int) := by rw [w64 (by omega) (by omega)]; omega
  simp only [laws_FnCastAll.l2, rdI L i hi, hq, wi]
  rw [if_pos b3, if_pos b4, if_pos b2, if_pos b1, if_pos h7]
  exact ih'
theorem rounds_all (L : List S42) (m : Int) (hm : 1 ≤ m) (hc : cOk L = true) (hL : L.length ≤ 8) (d : Nat) : ∀ (k : Nat) (x : List S42) (c : List Int), d ≤ 40 → cOk x = true → x.length ≤ 8 → c.length = 8 → (∀ v : Nat, v < 8 → 0 ≤ rd c (v : Int) ∧ rd c (v : Int) + leftOf (v : Int) x = leftOf (v : Int) L) → sumL x ≤ (d : Int) → d * 10 + 400 < k → laws_FnCastAll.l0 k L m c x (40 - (d : Int)) = some true := by
 induction d with
 | zero =>
  intro k x c _ hx hxl hcl hv hs hk
  obtain ⟨k, rfl⟩ : ∃ q, k = q + 1 := ⟨k - 1, by omega⟩
  have hb := (sum_bd (-1) x hx).1
  obtain rfl : x = [] := List.eq_nil_of_length_eq_zero (by omega)
  simp only [laws_FnCastAll.l0]
  rw [if_neg (by omega)]
  exact same_loop L c hc (by omega) hcl (fun v h => by have := (hv v h).2; simp only [leftOf] at this; omega) L.length k 0 (by omega) (by omega) (by omega)
 | succ d ih =>
  intro k x c hd hx hxl hcl hv hs hk
  obtain ⟨k, rfl⟩ : ∃ q, k = q + 1 := ⟨k - 1, by omega⟩
  obtain ⟨bs, hbl, eF, eR⟩ := take_sel x m hx
  have hF := takeF_length x m
  have hFl := takeF_len x m hx
  have hRl := takeR_length x m
  have hN : ∀ y ∈ takeF x m, 0 ≤ y.f0 ∧ y.f0 ≤ 7 := by rw [eF]; exact sel_nodes (-1) x bs hx
  have hRok : cOk (takeR x m) = true := by rw [eR]; exact rest_ok (-1) x bs hx
  have hsum := told_sum x bs hbl
  rw [← eF, ← eR] at hsum
  have htl : ∀ v : Nat, v < 8 → cntF (v : Int) (takeF x m) + leftOf (v : Int) (takeR x m) = leftOf (v : Int) x := fun v _ => by rw [eF, eR]; exact told_left (v : Int) (-1) x bs hx hbl
  have hsR : sumL (takeR x m) ≤ (d : Int) := by
   by_cases e : x.length = 0
   ·have h0 : (takeR x m) = [] := List.eq_nil_of_length_eq_zero (by omega)
    rw [h0]; simp [sumL]
   ·have h1 : 1 ≤ howI x m := by unfold howI mx mn; omega
    omega
  obtain ⟨c', g1, g2, g3⟩ := count_loop L m (40 - ((d + 1 : Nat) : Int)) (by omega) (takeF x m) (takeR x m) (by omega) hN (takeF x m).length k 0 c hcl (by omega) (by omega) (by omega) (fun v h => by
   have h1 := hv v h
   have h2 := htl v h
   have h3 := left_le (v : Int) (-1) L hc
   have h4 := left_le (v : Int) (-1) (takeR x m) hRok
   rw [List.drop_zero]
   omega)
  rw [List.drop_zero] at g2
  have key := ih (k - (takeF x m).length - 1) (takeR x m) c' (by omega) hRok (by omega) g1 (fun v h => by
   have h1 := hv v h
   have h2 := htl v h
   have h3 := cnt_nonneg (v : Int) (takeF x m)
   rw [g2 v h]
   omega) hsR (by omega)
  simp only [laws_FnCastAll.l0]
  rw [if_pos (by omega), i_take x (by omega) m k (by omega), Option.bind_some]
  refine g3.trans ?_
  rw [show (40 : Int) - ((d + 1 : Nat) : Int) + 1 = 40 - (d : Int) by omega]
  exact key
theorem rd_zeros (v : Nat) (h : v < 8) : rd (List.replicate 8 (0 : Int)) (v : Int) = 0 := by
 rw [rdD _ v (by rw [List.length_replicate]; exact h), List.getElem_replicate]
theorem all_end (L : List S42) (m : Int) (hL : L.length ≤ 8) (hc : cOk L = true) (hm : 1 ≤ m) (k : Nat) (hk : 800 < k) : laws_FnCastAll.l0 k L m (List.replicate 8 0) L 0 = some true := by
 have hb := (sum_bd (-1) L hc).2
 have e := rounds_all L m hm hc hL 40 k L (List.replicate 8 0) (by omega) hc hL (by simp) (fun v h => by
  rw [rd_zeros v h]; omega) (by omega) (by omega)
 rw [show (40 : Int) - ((40 : Nat) : Int) = 0 by omega] at e
 exact e
theorem FnCastAll : laws_FnCastAll.Pure := by
 intro l0 hl1 hl2 hl3
 obtain ⟨b, hR, ho⟩ := open_ok l0 hl3
 obtain ⟨L, q, ht, Rq, hq, hft⟩ := anyItems_ok b 0 hR (by omega)
 obtain ⟨v, a1, b1, -, hv⟩ := pick_ok b q 8 Rq (by omega)
 refine ⟨2000 + 1 + 1, ?_⟩
 generalize hK : (2000 : Nat) = K
 simp only [laws_FnCastAll.f]
 by_cases h0 : (l0.length : Int) > 1048576
 ·rw [if_pos h0]
 ·rw [if_neg h0]
  simp only [spec_DrawCastTake.f, ho, hft (K + 1 + 1) (by omega), hv (K + 1 + 1) (by omega), Option.bind_some]
  generalize wrap64 (v - 1) = m
  have hF := takeF_length L m
  have hRl := takeR_length L m
  simp only [i_take L (by omega) m (K + 1 + 1) (by omega), s_take L (by omega) m (K + 1 + 1) (by omega), lhF (takeF L m) (by omega) (K + 1 + 1) (by omega), lhI (takeR L m) (by omega) (K + 1 + 1) (by omega), s_cast L (by omega) (K + 1 + 1) (by omega), i_cast L (by omega) (K + 1 + 1) (by omega), bne_self_eq_false, Option.bind_some, if_true]
  simp only [laws_FnCastAll.j0, Bool.false_eq_true, if_false, s_cast L (by omega) (K + 1) (by omega), Option.bind_some]
  cases hc : cOk L
  ·have e : takeF L m = [] := by unfold takeF; rw [hc]; rfl
   rw [if_neg (by decide), e]
   simp only [laws_FnCastAll.j1, if_true]
   rfl
  ·rw [if_pos rfl]
   by_cases hm : m < 1
   ·have e : takeF L m = [] := List.eq_nil_of_length_eq_zero (by rw [takeF_len L m hc]; unfold howI mx mn; omega)
    rw [decide_eq_true hm, e]
    simp only [laws_FnCastAll.j1, if_true]
    rfl
   ·rw [decide_eq_false hm]
    have e := all_end L m (by omega) hc (by omega) K (by omega)
    simp only [laws_FnCastAll.j1, Bool.false_eq_true, if_false, Option.bind_some, List.nil_append, List.length_nil]
    rw [if_pos (by decide), if_pos (by omega)]
    exact e
end Go.Proofs.Ytbibieonaceolaa.Pure
