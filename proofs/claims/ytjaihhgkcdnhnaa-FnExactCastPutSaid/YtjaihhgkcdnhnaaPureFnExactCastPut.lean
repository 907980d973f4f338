/- The program's CastPut answers as the reference's, for every list of items and every fact, leaves the list as it is, and answers in its own memory. Conditions: none beyond the row's reach. -/
import Derived.Test.YtjaihhgkcdnhnaaPFnExactCastPutx
set_option linter.unusedVariables false
set_option linter.unusedSimpArgs false
namespace Go.Proofs.Ytjaihhgkcdnhnaa.Pure
open Go.RowKit Go.Proofs.Ytjaihhgkcdnhnaa.PFnExactCastPut Go.Proofs.YtjaihhgkcdnhnaaW.PrintWords Go.Proofs.YtjaihhgkcdnhnaaW.PrintLast Go.Proofs.YtjaihhgkcdnhnaaW.PrintMore
theorem w64 {n : Int} (h : -9223372036854775808 ≤ n) (h' : n ≤ 9223372036854775807) : wrap64 n = n := by unfold wrap64; omega
theorem lt_ge (a b : Int) : a < b ∨ b ≤ a := by omega
/-! ranges -/
theorem s_in (a l h : Int) : spec_l1In.f a l h = some (decide (l ≤ a) && decide (a ≤ h)) := by
 simp only [spec_l1In.f]
 by_cases h1 : a ≥ l
 ·rw [if_pos h1, decide_eq_true (show l ≤ a from h1)]; rfl
 ·rw [if_neg h1, decide_eq_false (show ¬ l ≤ a from h1)]; rfl
theorem i_in (a l h : Int) : impl_in.f a l h = some (decide (l ≤ a) && decide (a ≤ h)) := by
 simp only [impl_in.f]
 by_cases h1 : a ≥ l
 ·rw [if_pos h1, decide_eq_true (show l ≤ a from h1)]; rfl
 ·rw [if_neg h1, decide_eq_false (show ¬ l ≤ a from h1)]; rfl
theorem if_some {α : Type} (c : Bool) (x : α) (y z : Bool) : (if c = true then some y else some z : Option Bool) = some (if c = true then y else z) := by cases c <;> rfl
def inB (a l h : Int) : Bool := decide (l ≤ a) && decide (a ≤ h)
def factOk (n i s : Int) : Bool := inB n 0 7 && (inB i 0 999 && inB s 1 4)
theorem s_factOk (a b c : Int) (d : Bool) : spec_FactOk.f a b c d = some (factOk a b c) := by
 simp only [spec_FactOk.f, s_in, Option.bind_some, factOk, inB]
 cases (decide (0 ≤ a) && decide (a ≤ 7)) <;> cases (decide (0 ≤ b) && decide (b ≤ 999)) <;> simp
theorem i_factOk (a b c : Int) (d : Bool) : impl_FactOk.f a b c d = some (factOk a b c) := by
 simp only [impl_FactOk.f, impl_isNode.f, i_in, Option.bind_some, factOk, inB]
 cases (decide (0 ≤ a) && decide (a ≤ 7)) <;> cases (decide (0 ≤ b) && decide (b ≤ 999)) <;> simp
/-! tables: S30 a fact of the program's, S24 the statement's own -/
def fok (x : S30) : Bool := factOk x.f0 x.f1 x.f2
def tabB : Int → List S30 → Bool
 | _, [] => true
 | p, x :: xs => fok x && (decide (p < x.f0) && tabB x.f0 xs)
def prevOf (l : List S30) (n : Nat) : Int := if n = 0 then -1 else (rd_T30 l ((n - 1 : Nat) : Int)).f0
theorem fok_node {x : S30} (h : fok x = true) : 0 ≤ x.f0 ∧ x.f0 ≤ 7 ∧ 0 ≤ x.f1 ∧ x.f1 ≤ 999 ∧ 1 ≤ x.f2 ∧ x.f2 ≤ 4 := by
 simp only [fok, factOk, inB, Bool.and_eq_true, decide_eq_true_eq] at h
 omega
theorem rdF (l : List S30) (n : Nat) (h : n < l.length) : rd_T30 l (n : Int) = l[n] := by
 unfold rd_T30
 rw [Int.toNat_natCast, List.getD_eq_getElem?_getD, List.getElem?_eq_getElem h]; rfl
theorem tabB_step (l : List S30) (n : Nat) (h : n < l.length) : tabB (prevOf l n) (l.drop n) = (fok l[n] && (decide (prevOf l n < l[n].f0) && tabB (prevOf l (n + 1)) (l.drop (n + 1)))) := by
 rw [List.drop_eq_getElem_cons h]
 have e : prevOf l (n + 1) = l[n].f0 := by unfold prevOf; rw [if_neg (by omega), Nat.add_sub_cancel, rdF l n h]
 rw [e]; rfl
theorem i_tab_loop (l : List S30) (hl : l.length ≤ 1000000000000) (d : Nat) : ∀ (k n : Nat), n ≤ l.length → l.length - n = d → d < k → impl_TableOk.l0 k l l (l.length : Int) (n : Int) = some (tabB (prevOf l n) (l.drop n)) := by
 induction d with
 | zero =>
  intro k n h0 h1 h2
  obtain ⟨k, rfl⟩ : ∃ m, k = m + 1 := ⟨k - 1, by omega⟩
  obtain rfl : n = l.length := by omega
  simp only [impl_TableOk.l0]; rw [if_neg (by omega), List.drop_length]; rfl
 | succ d ih =>
  intro k n h0 h1 h2
  obtain ⟨k, rfl⟩ : ∃ m, k = m + 1 := ⟨k - 1, by omega⟩
  have hn : n < l.length := by omega
  have ih' := ih k (n + 1) (by omega) (by omega) (by omega)
  have w1 : wrap64 ((n : Int) + 1) = ((n + 1 : Nat) : Int) := by rw [w64 (by omega) (by omega)]; omega
  rw [tabB_step l n hn]
  simp only [impl_TableOk.l0]
  rw [if_pos (by omega), if_pos (by omega), if_pos (by omega), i_factOk, rdF l n hn, w1, ih']
  simp only [Option.bind_some]
  show (if fok l[n] = true then _ else _) = _
  cases hf : fok l[n]
  ·rfl
  ·obtain ⟨f0, -⟩ := fok_node hf
   rw [if_pos rfl, Bool.true_and]
   by_cases hz : n = 0
   ·subst hz
    rw [if_neg (by omega), decide_eq_true (by unfold prevOf; rw [if_pos rfl]; omega), Bool.true_and]
   ·have w2 : wrap64 ((n : Int) - 1) = ((n - 1 : Nat) : Int) := by rw [w64 (by omega) (by omega)]; omega
    have hp : prevOf l n = l[n - 1].f0 := by unfold prevOf; rw [if_neg hz, rdF l (n - 1) (by omega)]
    rw [if_pos (by omega), w2, if_pos (by omega), if_pos (by omega), rdF l (n - 1) (by omega), hp]
    by_cases hlt : l[n - 1].f0 < l[n].f0
    ·rw [if_neg (by omega), decide_eq_true hlt, Bool.true_and]
    ·rw [if_pos (by omega), decide_eq_false hlt, Bool.false_and]
def tOk (l : List S30) : Bool := tabB (-1) l
theorem i_tab (l : List S30) (hl : l.length ≤ 1000000000000) (k : Nat) (hk : l.length < k) : impl_TableOk.f k l = some (tOk l) := i_tab_loop l hl l.length k 0 (by omega) (by omega) hk
/-! items: S57 an item of the program's, S67 the statement's own -/
def convJ (x : S67) : S57 := ⟨⟨x.f0.f0, x.f0.f1, x.f0.f2, x.f0.f3⟩, x.f1⟩
theorem rdJ (l : List S67) (n : Nat) (h : n < l.length) : rd_T67 l (n : Int) = l[n] := by
 unfold rd_T67
 rw [Int.toNat_natCast, List.getD_eq_getElem?_getD, List.getElem?_eq_getElem h]; rfl
theorem rdI (l : List S57) (n : Nat) (h : n < l.length) : rd_T57 l (n : Int) = l[n] := by
 unfold rd_T57
 rw [Int.toNat_natCast, List.getD_eq_getElem?_getD, List.getElem?_eq_getElem h]; rfl
theorem toIS_loop (l : List S67) (hl : l.length ≤ 1000000000000) (d : Nat) : ∀ (k n : Nat), n ≤ l.length → l.length - n = d → d < k → laws_toItemS.l0 k l ((l.take n).map convJ ++ List.replicate (l.length - n) z57) (n : Int) = some (l.map convJ) := by
 induction d with
 | zero =>
  intro k n h0 h1 h2
  obtain ⟨k, rfl⟩ : ∃ m, k = m + 1 := ⟨k - 1, by omega⟩
  obtain rfl : n = l.length := by omega
  simp only [laws_toItemS.l0]; rw [if_neg (by omega), List.take_length, Nat.sub_self]; simp
 | succ d ih =>
  intro k n h0 h1 h2
  obtain ⟨k, rfl⟩ : ∃ m, k = m + 1 := ⟨k - 1, by omega⟩
  have hn : n < l.length := by omega
  have ih' := ih k (n + 1) (by omega) (by omega) (by omega)
  have w1 : wrap64 ((n : Int) + 1) = ((n + 1 : Nat) : Int) := by rw [w64 (by omega) (by omega)]; omega
  have hlen : ((l.take n).map convJ).length = n := by rw [List.length_map, List.length_take]; omega
  simp only [laws_toItemS.l0]
  rw [if_pos (by omega), if_pos (by omega)]
  simp only [laws_toItem.f, laws_toFact.f, Option.bind_some]
  rw [if_pos (by rw [List.length_append, hlen, List.length_replicate]; omega), w1, rdJ l n hn, Int.toNat_natCast, List.set_append_right (h := by omega), hlen, Nat.sub_self]
  have e : List.replicate (l.length - n) z57 = z57 :: List.replicate (l.length - (n + 1)) z57 := by rw [show l.length - n = (l.length - (n + 1)) + 1 by omega, List.replicate_succ]
  rw [e, List.set_cons_zero]
  have e2 : (l.take (n + 1)).map convJ = (l.take n).map convJ ++ [convJ l[n]] := by rw [List.take_succ_eq_append_getElem hn, List.map_append]; rfl
  rw [e2, List.append_assoc] at ih'
  exact ih'
theorem toIS (l : List S67) (hl : l.length ≤ 1048576) (k : Nat) (hk : l.length < k) : laws_toItemS.f k l = some (l.map convJ) := by
 simp only [laws_toItemS.f, Int.toNat_natCast]
 rw [if_pos (by omega), if_pos (by omega)]
 have := toIS_loop l (by omega) l.length k 0 (by omega) (by omega) hk
 simpa using this
theorem eqItem_self (x : S57) : laws_eqItem.f x.f0.f0 x.f0.f1 x.f0.f2 x.f0.f3 x.f1 x.f0.f0 x.f0.f1 x.f0.f2 x.f0.f3 x.f1 = some true := by
 simp only [laws_eqItem.f, laws_eqFact.f, if_true, bne_self_eq_false, Bool.false_eq_true, if_false, Option.bind_some]
theorem eqIS_loop (l : List S57) (hl : l.length ≤ 1000000000000) (d : Nat) : ∀ (k n : Nat), n ≤ l.length → l.length - n = d → d < k → laws_eqItemS.l0 k l l (n : Int) = some true := by
 induction d with
 | zero =>
  intro k n h0 h1 h2
  obtain ⟨k, rfl⟩ : ∃ m, k = m + 1 := ⟨k - 1, by omega⟩
  simp only [laws_eqItemS.l0]; rw [if_neg (by omega)]
 | succ d ih =>
  intro k n h0 h1 h2
  obtain ⟨k, rfl⟩ : ∃ m, k = m + 1 := ⟨k - 1, by omega⟩
  have ih' := ih k (n + 1) (by omega) (by omega) (by omega)
  have w1 : wrap64 ((n : Int) + 1) = ((n + 1 : Nat) : Int) := by rw [w64 (by omega) (by omega)]; omega
  simp only [laws_eqItemS.l0]
  rw [if_pos (by omega), if_pos (by omega), if_pos (by omega), eqItem_self, w1]
  simp only [Option.bind_some, if_true]
  exact ih'
theorem eqIS (l : List S57) (hl : l.length ≤ 1000000000000) (k : Nat) (hk : l.length < k) : laws_eqItemS.f k l l = some true := by
 simp only [laws_eqItemS.f, if_true]
 exact eqIS_loop l hl l.length k 0 (by omega) (by omega) hk
theorem szIS (l : List S67) (hl : l.length ≤ maxLen) : ∃ m, laws_szItemS.f l 1048576 = some m ∧ (0 ≤ m → l.length ≤ 1048576) := by
 unfold maxLen at hl
 have e : wrap64 (1048576 - (l.length : Int)) = 1048576 - (l.length : Int) := w64 (by omega) (by omega)
 simp only [laws_szItemS.f, e]
 by_cases h : 1048576 - (l.length : Int) < 0
 ·rw [if_pos h]; exact ⟨_, rfl, by omega⟩
 ·rw [if_neg h]; exact ⟨_, rfl, by omega⟩
/-! which fact overrides which -/
def cmpI (a b : Int) : Int := if a < b then -1 else if a > b then 1 else 0
theorem cmp_eq (a b : Int) : cmp_Compare_int.f a b = some (cmpI a b) := by
 simp only [cmp_Compare_int.f, cmp_isNaN_int.f, Option.bind_some, bne_self_eq_false, Bool.false_eq_true, if_false, cmpI]
 by_cases h : a < b
 ·rw [if_pos h, if_pos h]
 ·rw [if_neg h, if_neg h]
  by_cases h2 : a > b
  ·rw [if_pos h2, if_pos h2]
  ·rw [if_neg h2, if_neg h2]
theorem or4 (a b c d : Int) (k : Nat) (hk : 5 ≤ k) : cmp_Or_int.f k [a, b, c, d] = some (if a = 0 then (if b = 0 then (if c = 0 then d else c) else b) else a) := by
 obtain ⟨k, rfl⟩ : ∃ m, k = m + 5 := ⟨k - 5, by omega⟩
 have e0 : wrap64 (0 + 1) = 1 := w64 (by omega) (by omega)
 have e1 : wrap64 (1 + 1) = 2 := w64 (by omega) (by omega)
 have e2 : wrap64 (2 + 1) = 3 := w64 (by omega) (by omega)
 have e3 : wrap64 (3 + 1) = 4 := w64 (by omega) (by omega)
 have r0 : rd [a, b, c, d] 0 = a := rfl
 have r1 : rd [a, b, c, d] 1 = b := rfl
 have r2 : rd [a, b, c, d] 2 = c := rfl
 have r3 : rd [a, b, c, d] 3 = d := rfl
 have hl : (([a, b, c, d] : List Int).length : Int) = 4 := rfl
 simp only [cmp_Or_int.f, cmp_Or_int.l0, hl, r0, e0]
 rw [if_pos (by decide), if_pos (by decide), if_pos (by decide)]
 by_cases ha : a = 0
 ·rw [if_pos ha, if_pos ha]
  simp only [r1, e1]
  rw [if_pos (by decide), if_pos (by decide), if_pos (by decide)]
  by_cases hb : b = 0
  ·rw [if_pos hb, if_pos hb]
   simp only [r2, e2]
   rw [if_pos (by decide), if_pos (by decide), if_pos (by decide)]
   by_cases hc : c = 0
   ·rw [if_pos hc, if_pos hc]
    simp only [r3, e3]
    rw [if_pos (by decide), if_pos (by decide), if_pos (by decide)]
    by_cases hd : d = 0
    ·rw [if_pos hd, if_neg (by decide), hd]
    ·rw [if_neg hd]
   ·rw [if_neg hc, if_neg hc]
  ·rw [if_neg hb, if_neg hb]
 ·rw [if_neg ha, if_neg ha]
def gateI (f g : Bool) : Int := if (f && !g) = true then 1 else if (g && !f) = true then -1 else 0
def cmpF (n i s : Int) (f : Bool) (n' i' s' : Int) (g : Bool) : Int := if cmpI n n' = 0 then (if cmpI i i' = 0 then (if cmpI s s' = 0 then gateI f g else cmpI s s') else cmpI i i') else cmpI n n'
theorem compare_eq (n i s : Int) (f : Bool) (n' i' s' : Int) (g : Bool) (k : Nat) (hk : 8 ≤ k) : impl_Fact_compare.f k n i s f n' i' s' g = some (cmpF n i s f n' i' s' g) := by
 obtain ⟨k, rfl⟩ : ∃ m, k = m + 2 := ⟨k - 2, by omega⟩
 have hj : ∀ x, impl_Fact_compare.j1 (k + 1) x n i s f n' i' s' g = some (if cmpI n n' = 0 then (if cmpI i i' = 0 then (if cmpI s s' = 0 then x else cmpI s s') else cmpI i i') else cmpI n n') := by
  intro x
  simp only [impl_Fact_compare.j1, cmp_eq, Option.bind_some, or4 _ _ _ _ k (by omega)]
 simp only [impl_Fact_compare.f, impl_Fact_compare.j0, hj, cmpF]
 cases f <;> cases g <;> rfl
def overB (i s : Int) (f : Bool) (i' s' : Int) (g : Bool) : Bool := if i = i' then (if s = s' then f && !g else decide (s > s')) else decide (i > i')
theorem cmpI_zero (a b : Int) : cmpI a b = 0 ↔ a = b := by
 unfold cmpI
 split
 ·omega
 ·split <;> omega
theorem cmpI_pos (a b : Int) : (decide (cmpI a b > 0)) = decide (a > b) := by
 unfold cmpI
 split
 ·rw [decide_eq_false (by omega), decide_eq_false (by omega)]
 ·split
  ·rw [decide_eq_true (by omega), decide_eq_true (by omega)]
  ·rw [decide_eq_false (by omega), decide_eq_false (by omega)]
theorem cmpF_pos (n i s : Int) (f : Bool) (i' s' : Int) (g : Bool) : decide (cmpF n i s f n i' s' g > 0) = overB i s f i' s' g := by
 unfold cmpF overB
 rw [if_pos ((cmpI_zero _ _).mpr rfl)]
 by_cases h1 : i = i'
 ·rw [if_pos ((cmpI_zero _ _).mpr h1), if_pos h1]
  by_cases h2 : s = s'
  ·rw [if_pos ((cmpI_zero _ _).mpr h2), if_pos h2]
   cases f <;> cases g <;> rfl
  ·rw [if_neg (fun h => h2 ((cmpI_zero _ _).mp h)), if_neg h2, cmpI_pos]
 ·rw [if_neg (fun h => h1 ((cmpI_zero _ _).mp h)), if_neg h1, cmpI_pos]
def factOver (n i s : Int) (f : Bool) (n' i' s' : Int) (g : Bool) : Bool := factOk n i s && (factOk n' i' s' && (decide (n = n') && overB i s f i' s' g))
theorem s_l3Over (n i s : Int) (f : Bool) (n' i' s' : Int) (g : Bool) : spec_l3Over.f n i s f n' i' s' g = some (overB i s f i' s' g) := by
 simp only [spec_l3Over.f, overB]
 by_cases h1 : i = i'
 ·rw [if_pos h1, if_pos h1]
  by_cases h2 : s = s'
  ·rw [if_pos h2, if_pos h2]
   cases f <;> rfl
  ·rw [if_neg h2, if_neg h2]
 ·rw [if_neg h1, if_neg h1]
/-! places in tables -/
theorem tabB_pw : ∀ (p : Int) (l : List S30), tabB p l = true → (∀ x ∈ l, p < x.f0) ∧ l.Pairwise (fun a b => a.f0 < b.f0)
 | _, [], _ => ⟨fun x hx => (by cases hx), List.Pairwise.nil⟩
 | p, y :: ys, h => by
  simp only [tabB, Bool.and_eq_true, decide_eq_true_eq] at h
  obtain ⟨h1, h2, h3⟩ := h
  obtain ⟨i1, i2⟩ := tabB_pw _ _ h3
  refine ⟨fun x hx => ?_, List.Pairwise.cons (fun b hb => i1 b hb) i2⟩
  rcases List.mem_cons.1 hx with rfl | hx
  ·exact h2
  ·have := i1 x hx; omega
theorem tabB_fok : ∀ (p : Int) (l : List S30), tabB p l = true → ∀ x ∈ l, fok x = true
 | _, [], _ => fun x hx => (by cases hx)
 | p, y :: ys, h => by
  simp only [tabB, Bool.and_eq_true, decide_eq_true_eq] at h
  obtain ⟨h1, h2, h3⟩ := h
  intro x hx
  rcases List.mem_cons.1 hx with rfl | hx
  ·exact h1
  ·exact tabB_fok _ _ h3 x hx
theorem tabB_of : ∀ (p : Int) (l : List S30), (∀ x ∈ l, fok x = true) → (∀ x ∈ l, p < x.f0) → l.Pairwise (fun a b => a.f0 < b.f0) → tabB p l = true
 | _, [], _, _, _ => rfl
 | p, y :: ys, h1, h2, h3 => by
  simp only [tabB, Bool.and_eq_true, decide_eq_true_eq]
  obtain ⟨q1, q2⟩ := List.pairwise_cons.1 h3
  exact ⟨h1 y List.mem_cons_self, h2 y List.mem_cons_self, tabB_of _ _ (fun x hx => h1 x (List.mem_cons_of_mem _ hx)) (fun x hx => q1 x hx) q2⟩
theorem tOk_iff (l : List S30) : tOk l = true ↔ (∀ x ∈ l, fok x = true) ∧ l.Pairwise (fun a b => a.f0 < b.f0) :=
 ⟨fun h => ⟨tabB_fok _ _ h, (tabB_pw _ _ h).2⟩, fun h => tabB_of _ _ h.1 (fun x hx => by have := (fok_node (h.1 x hx)).1; omega) h.2⟩
theorem tab_lt (l : List S30) (h : tOk l = true) (i j : Nat) (hj : j < l.length) (hij : i < j) : (l[i]'(by omega)).f0 < l[j].f0 :=
 (List.pairwise_iff_getElem.1 (tabB_pw _ _ h).2) i j _ hj hij
def fnd (a : Int) : Int → List S30 → Int
 | _, [] => -1
 | n, x :: xs => if x.f0 = a then n else fnd a (n + 1) xs
theorem fnd_spec (a : Int) : ∀ (l : List S30) (n : Int), (fnd a n l = -1 ∧ ∀ x ∈ l, x.f0 ≠ a) ∨ (∃ i : Nat, ∃ h : i < l.length, fnd a n l = n + i ∧ (l[i]'h).f0 = a)
 | [], n => .inl ⟨rfl, fun x hx => (by cases hx)⟩
 | x :: xs, n => by
  by_cases e : x.f0 = a
  ·exact .inr ⟨0, by simp, by simp only [fnd, if_pos e]; omega, e⟩
  ·rcases fnd_spec a xs (n + 1) with ⟨h1, h2⟩ | ⟨i, hi, h1, h2⟩
   ·refine .inl ⟨by simp only [fnd, if_neg e]; exact h1, fun y hy => ?_⟩
    rcases List.mem_cons.1 hy with rfl | hy
    ·exact e
    ·exact h2 y hy
   ·exact .inr ⟨i + 1, by simpa using hi, by simp only [fnd, if_neg e, h1]; omega, h2⟩
theorem i_cmp (a b : Int) : cmp_Compare_int.f a b = some (cmpI a b) := by
 simp only [cmp_Compare_int.f, cmp_isNaN_int.f, Option.bind_some, bne_self_eq_false, Bool.false_eq_true, if_false, cmpI]
 split
 ·rfl
 ·split <;> rfl
theorem cmp_lt (a b : Int) : cmpI a b < 0 ↔ a < b := by
 unfold cmpI; split
 ·exact ⟨fun _ => ‹_›, fun _ => by omega⟩
 ·split <;> exact ⟨fun h => absurd h (by omega), fun h => absurd h ‹_›⟩
theorem cmp_zero (a b : Int) : (cmpI a b == 0) = decide (a = b) := by
 unfold cmpI; split
 ·rw [decide_eq_false (by omega)]; rfl
 ·split
  ·rw [decide_eq_false (by omega)]; rfl
  ·rw [decide_eq_true (by omega)]; rfl
theorem u64w {n : Int} (h : 0 ≤ n) (h' : n ≤ 9223372036854775807) : IntKind.u64.wrap n = n := by
 unfold IntKind.wrap; simp only [IntKind.bits, IntKind.signed]; first | omega | (simp; omega)
theorem half (i j : Nat) (hj : j ≤ 1000000000000) (hi : i ≤ 1000000000000) : wrap64 (IntKind.u64.wrap (wrap64 ((i : Int) + (j : Int))) / 2) = (((i + j) / 2 : Nat) : Int) := by
 rw [w64 (n := (i : Int) + j) (by omega) (by omega), u64w (by omega) (by omega), w64 (by omega) (by omega)]; omega
theorem i_bin (l : List S30) (a : Int) (hl : l.length ≤ 1000000000000) (hs : tOk l = true) (d : Nat) : ∀ (k i j : Nat), i ≤ j → j ≤ l.length → j - i ≤ d → d < k → (∀ t (h : t < l.length), t < i → l[t].f0 < a) → (∀ t (h : t < l.length), j ≤ t → a ≤ l[t].f0) →
  ∃ (m : Nat) (b : Bool), impl_Fact_int.l0 k l a (l.length : Int) (i : Int) (j : Int) = some ((m : Int), b) ∧ m ≤ l.length ∧ (∀ t (h : t < l.length), t < m → l[t].f0 < a) ∧ (∀ t (h : t < l.length), m ≤ t → a ≤ l[t].f0) ∧ (b = true → ∃ h : m < l.length, (l[m]'h).f0 = a) ∧ (b = false → ∀ t (h : t < l.length), l[t].f0 ≠ a) := by
 induction d with
 | zero =>
  intro k i j h1 h2 h3 h4 p q
  obtain ⟨k, rfl⟩ : ∃ m, k = m + 1 := ⟨k - 1, by omega⟩
  obtain rfl : i = j := by omega
  simp only [impl_Fact_int.l0]
  rw [if_neg (by omega)]
  by_cases hn : i < l.length
  ·rw [if_pos (by omega), if_pos (by omega), if_pos (by omega), rdF l i hn]
   simp only [impl_find_1.f, i_cmp, Option.bind_some, cmp_zero]
   refine ⟨i, _, rfl, h2, p, q, fun hb => ⟨hn, of_decide_eq_true hb⟩, fun hb t ht he => ?_⟩
   have hne := of_decide_eq_false hb
   by_cases c1 : t < i
   ·have := p t ht c1; omega
   ·by_cases c2 : t = i
    ·subst c2; exact hne he
    ·have h5 := tab_lt l hs i t ht (by omega)
     have h6 := q i hn (by omega)
     omega
  ·rw [if_neg (by omega)]
   refine ⟨i, false, rfl, h2, p, q, fun hb => (by cases hb), fun _ t ht he => ?_⟩
   have := p t ht (by omega); omega
 | succ d ih =>
  intro k i j h1 h2 h3 h4 p q
  obtain ⟨k, rfl⟩ : ∃ m, k = m + 1 := ⟨k - 1, by omega⟩
  by_cases hij : i < j
  ·generalize hm : (i + j) / 2 = m
   have hmi : i ≤ m := by omega
   have hmj : m < j := by omega
   have hml : m < l.length := by omega
   have hw := half i j (by omega) (by omega)
   rw [hm] at hw
   have w1 : wrap64 ((m : Int) + 1) = ((m + 1 : Nat) : Int) := by rw [w64 (by omega) (by omega)]; omega
   simp only [impl_Fact_int.l0, hw, w1]
   clear hw w1
   rw [if_pos (by omega), if_pos (by omega), if_pos (by omega), rdF l m hml]
   simp only [impl_find_1.f, i_cmp, Option.bind_some, cmp_lt]
   by_cases hc : l[m].f0 < a
   ·rw [if_pos hc]
    refine ih k (m + 1) j (by omega) h2 (by omega) (by omega) (fun t ht htm => ?_) q
    by_cases e : t = m
    ·subst e; exact hc
    ·have := tab_lt l hs t m hml (by omega); omega
   ·rw [if_neg hc]
    refine ih k i m (by omega) (by omega) (by omega) (by omega) p (fun t ht htm => ?_)
    by_cases e : t = m
    ·subst e; omega
    ·have := tab_lt l hs m t ht (by omega); omega
  ·obtain rfl : i = j := by omega
   exact ih (k + 1) i i (by omega) h2 (by omega) (by omega) p q
theorem i_find (l : List S30) (a : Int) (hl : l.length ≤ 1000000000000) (hs : tOk l = true) (k : Nat) (hk : l.length < k) : ∃ (m : Nat) (b : Bool), impl_find.f k l a = some ((m : Int), b) ∧ m ≤ l.length ∧ (∀ t (h : t < l.length), t < m → l[t].f0 < a) ∧ (∀ t (h : t < l.length), m ≤ t → a ≤ l[t].f0) ∧ (b = true → ∃ h : m < l.length, (l[m]'h).f0 = a) ∧ (b = false → ∀ t (h : t < l.length), l[t].f0 ≠ a) := by
 obtain ⟨m, b, h1, h2⟩ := i_bin l a hl hs l.length k 0 l.length (by omega) (by omega) (by omega) hk (fun t ht h => absurd h (by omega)) (fun t ht h => absurd ht (by omega))
 refine ⟨m, b, ?_, h2⟩
 simp only [impl_find.f, impl_Fact_int.f]
 rw [show ((0 : Int)) = ((0 : Nat) : Int) from rfl, h1]; rfl
def pos (a : Int) : List S30 → Nat
 | [] => 0
 | y :: ys => if y.f0 < a then pos a ys + 1 else 0
theorem pos_le (a : Int) : ∀ l : List S30, pos a l ≤ l.length
 | [] => Nat.le_refl _
 | y :: ys => by
  have := pos_le a ys
  simp only [pos, List.length_cons]
  split <;> omega
theorem pos_lt (a : Int) : ∀ (l : List S30), ∀ x ∈ l.take (pos a l), x.f0 < a
 | [], x, hx => by simp at hx
 | y :: ys, x, hx => by
  simp only [pos] at hx
  by_cases h : y.f0 < a
  ·rw [if_pos h, List.take_succ_cons] at hx
   rcases List.mem_cons.1 hx with rfl | hx
   ·exact h
   ·exact pos_lt a ys x hx
  ·rw [if_neg h] at hx
   simp at hx
theorem pos_at (a : Int) : ∀ (l : List S30) (h : pos a l < l.length), ¬ (l[pos a l]).f0 < a
 | [], h => by simp at h
 | y :: ys, h => by
  by_cases c : y.f0 < a
  ·have hp : pos a (y :: ys) = pos a ys + 1 := by simp only [pos, if_pos c]
   have h2 : pos a ys < ys.length := by rw [hp] at h; simpa using h
   have := pos_at a ys h2
   simp only [hp, List.getElem_cons_succ]
   exact this
  ·have hp : pos a (y :: ys) = 0 := by simp only [pos, if_neg c]
   simp only [hp, List.getElem_cons_zero]
   exact c
theorem pos_eq (a : Int) : ∀ (l : List S30) (m : Nat), m ≤ l.length → (∀ t (h : t < l.length), t < m → l[t].f0 < a) → (∀ t (h : t < l.length), m ≤ t → a ≤ l[t].f0) → m = pos a l
 | [], m, h, _, _ => by simp at h; exact h
 | y :: ys, m, h, p, q => by
  by_cases c : y.f0 < a
  ·simp only [pos, if_pos c]
   obtain ⟨m, rfl⟩ : ∃ j, m = j + 1 := by
    rcases m with _ | m
    ·have := q 0 (by simp) (Nat.le_refl _)
     simp only [List.getElem_cons_zero] at this
     omega
    ·exact ⟨m, rfl⟩
   rw [pos_eq a ys m (by simpa using h) (fun t ht htm => p (t + 1) (Nat.succ_lt_succ ht) (by omega)) (fun t ht htm => q (t + 1) (Nat.succ_lt_succ ht) (by omega))]
  ·simp only [pos, if_neg c]
   rcases m with _ | m
   ·rfl
   ·have := p 0 (by simp) (by omega)
    simp only [List.getElem_cons_zero] at this
    omega
def castB : Int → List S57 → Bool
 | _, [] => true
 | p, x :: xs => fok x.f0 && (inB x.f1 1 4 && (decide (p < x.f0.f0) && castB x.f0.f0 xs))
def leftB : List S57 → Bool
 | [] => true
 | x :: xs => inB x.f1 1 4 && leftB xs
theorem castB_eq : ∀ (p : Int) (l : List S57), castB p l = (tabB p (l.map (·.f0)) && leftB l)
 | _, [] => rfl
 | p, x :: xs => by
  simp only [castB, tabB, leftB, List.map_cons, castB_eq x.f0.f0 xs]
  cases fok x.f0 <;> cases inB x.f1 1 4 <;> cases decide (p < x.f0.f0) <;> simp
def prevI (l : List S57) (n : Nat) : Int := if n = 0 then -1 else (rd_T57 l ((n - 1 : Nat) : Int)).f0.f0
theorem castB_step (l : List S57) (n : Nat) (h : n < l.length) : castB (prevI l n) (l.drop n) = (fok l[n].f0 && (inB l[n].f1 1 4 && (decide (prevI l n < l[n].f0.f0) && castB (prevI l (n + 1)) (l.drop (n + 1))))) := by
 rw [List.drop_eq_getElem_cons h]
 have e : prevI l (n + 1) = l[n].f0.f0 := by unfold prevI; rw [if_neg (by omega), Nat.add_sub_cancel, rdI l n h]
 rw [e]; rfl
theorem s_cast_loop (l : List S57) (hl : l.length ≤ 1000000000000) (d : Nat) : ∀ (k n : Nat), n ≤ l.length → l.length - n = d → d < k → spec_CastOk.l0 k l (n : Int) = some (castB (prevI l n) (l.drop n)) := by
 induction d with
 | zero =>
  intro k n h0 h1 h2
  obtain ⟨k, rfl⟩ : ∃ m, k = m + 1 := ⟨k - 1, by omega⟩
  obtain rfl : n = l.length := by omega
  simp only [spec_CastOk.l0]; rw [if_neg (by omega), List.drop_length]; rfl
 | succ d ih =>
  intro k n h0 h1 h2
  obtain ⟨k, rfl⟩ : ∃ m, k = m + 1 := ⟨k - 1, by omega⟩
  have hn : n < l.length := by omega
  have ih' := ih k (n + 1) (by omega) (by omega) (by omega)
  have w1 : wrap64 ((n : Int) + 1) = ((n + 1 : Nat) : Int) := by rw [w64 (by omega) (by omega)]; omega
  rw [castB_step l n hn]
  simp only [spec_CastOk.l0]
  rw [if_pos (by omega), if_pos (by omega), s_factOk, rdI l n hn, w1, ih', s_in]
  simp only [Option.bind_some]
  show (if fok l[n].f0 = true then (if inB l[n].f1 1 4 = true then _ else _) else _) = _
  cases hf : fok l[n].f0
  ·rfl
  ·obtain ⟨f0, -⟩ := fok_node hf
   rw [if_pos rfl, Bool.true_and]
   cases inB l[n].f1 1 4
   ·rfl
   ·rw [if_pos rfl, Bool.true_and]
    by_cases hz : n = 0
    ·subst hz
     rw [if_neg (by omega), decide_eq_true (by unfold prevI; rw [if_pos rfl]; omega), Bool.true_and]
    ·have w2 : wrap64 ((n : Int) - 1) = ((n - 1 : Nat) : Int) := by rw [w64 (by omega) (by omega)]; omega
     have hp : prevI l n = l[n - 1].f0.f0 := by unfold prevI; rw [if_neg hz, rdI l (n - 1) (by omega)]
     rw [if_pos (by omega), w2, if_pos (by omega), if_pos (by omega), rdI l (n - 1) (by omega), hp]
     by_cases hlt : l[n - 1].f0.f0 < l[n].f0.f0
     ·rw [if_neg (by omega), decide_eq_true hlt, Bool.true_and]
     ·rw [if_pos (by omega), decide_eq_false hlt, Bool.false_and]
theorem i_facts_loop (l : List S57) (hl : l.length ≤ 1000000000000) (d : Nat) : ∀ (k n : Nat) (acc : List S30), acc.length = n → n ≤ l.length → l.length - n = d → d < k → impl_facts.l0 k acc l (l.length : Int) (n : Int) = some (acc ++ (l.drop n).map (·.f0)) := by
 induction d with
 | zero =>
  intro k n acc ha h0 h1 h2
  obtain ⟨k, rfl⟩ : ∃ m, k = m + 1 := ⟨k - 1, by omega⟩
  obtain rfl : n = l.length := by omega
  simp only [impl_facts.l0]; rw [if_neg (by omega), List.drop_length]; simp
 | succ d ih =>
  intro k n acc ha h0 h1 h2
  obtain ⟨k, rfl⟩ : ∃ m, k = m + 1 := ⟨k - 1, by omega⟩
  have hn : n < l.length := by omega
  have w1 : wrap64 ((n : Int) + 1) = ((n + 1 : Nat) : Int) := by rw [w64 (by omega) (by omega)]; omega
  have ih2 := ih k (n + 1) (acc ++ [l[n].f0]) (by rw [List.length_append, List.length_singleton]; omega) (by omega) (by omega) (by omega)
  simp only [impl_facts.l0]
  rw [if_pos (by omega), if_pos (by omega), if_pos (by omega), if_pos (by omega), rdI l n hn, w1, List.drop_eq_getElem_cons hn, List.map_cons]
  refine ih2.trans ?_
  rw [List.append_assoc]; rfl
theorem i_facts (l : List S57) (hl : l.length ≤ 1000000000000) (k : Nat) (hk : l.length < k) : impl_facts.f k l = some (l.map (·.f0)) := by
 have := i_facts_loop l hl l.length k 0 [] rfl (by omega) (by omega) hk
 simpa [impl_facts.f] using this
theorem i_left_loop (l : List S57) (hl : l.length ≤ 1000000000000) (d : Nat) : ∀ (k n : Nat), n ≤ l.length → l.length - n = d → d < k → ∃ t, impl_Item_67.l0 k l (l.length : Int) (n : Int) = some t ∧ decide (t ≥ 0) = !leftB (l.drop n) := by
 induction d with
 | zero =>
  intro k n h0 h1 h2
  obtain ⟨k, rfl⟩ : ∃ m, k = m + 1 := ⟨k - 1, by omega⟩
  obtain rfl : n = l.length := by omega
  simp only [impl_Item_67.l0]; rw [if_neg (by omega), List.drop_length]; exact ⟨_, rfl, rfl⟩
 | succ d ih =>
  intro k n h0 h1 h2
  obtain ⟨k, rfl⟩ : ∃ m, k = m + 1 := ⟨k - 1, by omega⟩
  have hn : n < l.length := by omega
  obtain ⟨t, e1, e2⟩ := ih k (n + 1) (by omega) (by omega) (by omega)
  have w1 : wrap64 ((n : Int) + 1) = ((n + 1 : Nat) : Int) := by rw [w64 (by omega) (by omega)]; omega
  rw [List.drop_eq_getElem_cons hn]
  simp only [impl_Item_67.l0, leftB, impl_CastOk_1.f, i_in, Option.bind_some]
  rw [if_pos (by omega), if_pos (by omega), if_pos (by omega), rdI l n hn, w1, e1]
  show ∃ t_, (if (!inB l[n].f1 1 4) = true then some (n : Int) else some t) = some t_ ∧ _
  cases inB l[n].f1 1 4
  ·exact ⟨_, rfl, by rw [Bool.false_and]; exact decide_eq_true (by omega)⟩
  ·exact ⟨t, rfl, by rw [Bool.true_and]; exact e2⟩
def cOk (l : List S57) : Bool := castB (-1) l
theorem s_cast (l : List S57) (hl : l.length ≤ 1000000000000) (k : Nat) (hk : l.length < k) : spec_CastOk.f k l = some (cOk l) := s_cast_loop l hl l.length k 0 (by omega) (by omega) hk
theorem i_cast (l : List S57) (hl : l.length ≤ 1000000000000) (k : Nat) (hk : l.length < k) : impl_CastOk.f k l = some (cOk l) := by
 obtain ⟨t, e1, e2⟩ := i_left_loop l hl l.length k 0 (by omega) (by omega) hk
 have hlen : (l.map (·.f0)).length = l.length := List.length_map ..
 have e3 : impl_Item_67.f k l () = some t := e1
 simp only [impl_CastOk.f, i_facts l hl k hk, i_tab (l.map (·.f0)) (by omega) k (by omega), Option.bind_some, impl_Item_52.f, e3, e2, List.drop_zero, Bool.not_not, cOk, castB_eq, tOk]
 cases tabB (-1) (l.map (·.f0)) <;> rfl
/-! a fact put among items -/
def toldI (x : S30) : S57 := ⟨⟨x.f0, x.f1, x.f2, x.f3⟩, 4⟩
def ovI (x y : S30) : Bool := overB x.f1 x.f2 x.f3 y.f1 y.f2 y.f3
def putR (x : S30) : List S57 → Option (List S57)
 | [] => some [toldI x]
 | y :: ys => if y.f0.f0 < x.f0 then (putR x ys).map (y :: ·) else if y.f0.f0 = x.f0 then (if ovI x y.f0 = true then some (toldI x :: ys) else none) else some (toldI x :: y :: ys)
def putI (x : S30) (l : List S57) : List S57 := (putR x l).getD l
theorem putR_length (x : S30) : ∀ (l r : List S57), putR x l = some r → r.length ≤ l.length + 1
 | [], r, h => by
  obtain rfl := Option.some.inj h
  simp
 | y :: ys, r, h => by
  simp only [putR] at h
  by_cases h1 : y.f0.f0 < x.f0
  ·rw [if_pos h1] at h
   obtain ⟨q, hq, rfl⟩ := Option.map_eq_some_iff.1 h
   have := putR_length x ys q hq
   simp only [List.length_cons]; omega
  ·rw [if_neg h1] at h
   by_cases h2 : y.f0.f0 = x.f0
   ·rw [if_pos h2] at h
    cases ho : ovI x y.f0
    ·rw [ho] at h; cases h
    ·rw [ho] at h
     obtain rfl := Option.some.inj h
     simp only [List.length_cons]; omega
   ·rw [if_neg h2] at h
    obtain rfl := Option.some.inj h
    simp only [List.length_cons]; omega
theorem putI_length (x : S30) (l : List S57) : (putI x l).length ≤ l.length + 1 := by
 unfold putI
 cases h : putR x l with
 | none => exact Nat.le_succ _
 | some r => exact putR_length x l r h
def l5 (x : S30) (l : List S57) : List S57 → Bool → List S57 → List S57
 | out, done, [] => if done = true then out else out ++ [toldI x]
 | out, done, y :: ys =>
  if y.f0.f0 = x.f0 then (if ovI x y.f0 = true then (if done = true then l5 x l out true ys else l5 x l (out ++ [toldI x]) true ys) else l)
  else if done = true then l5 x l (out ++ [y]) true ys
  else if y.f0.f0 ≥ x.f0 then l5 x l (out ++ [toldI x] ++ [y]) true ys else l5 x l (out ++ [y]) false ys
theorem s_put5_loop (x : S30) (l : List S57) (hl : l.length ≤ 100000000) (d : Nat) : ∀ (k n : Nat) (out : List S57) (done : Bool), n ≤ l.length → l.length - n = d → out.length ≤ 2 * n + 1 → 3 * d < k → spec_l5Put.l0 k l out done (n : Int) x.f0 x.f1 x.f2 x.f3 = some (l5 x l out done (l.drop n)) := by
 induction d with
 | zero =>
  intro k n out done h0 h1 h2 h3
  obtain ⟨k, rfl⟩ : ∃ m, k = m + 1 := ⟨k - 1, by omega⟩
  obtain rfl : n = l.length := by omega
  simp only [spec_l5Put.l0]; rw [if_neg (by omega), List.drop_length]
  cases done
  ·rw [if_neg (by decide), if_pos (by omega)]; rfl
  ·rw [if_pos rfl]; rfl
 | succ d ih =>
  intro k n out done h0 h1 h2 h3
  obtain ⟨k, rfl⟩ : ∃ m, k = m + 3 := ⟨k - 3, by omega⟩
  have hn : n < l.length := by omega
  have w1 : wrap64 ((n : Int) + 1) = ((n + 1 : Nat) : Int) := by rw [w64 (by omega) (by omega)]; omega
  have j2 : ∀ c : Bool, ovI x l[n].f0 = true ∨ l[n].f0.f0 ≠ x.f0 → spec_l5Put.j2 (k + 1) l out done (n : Int) c x.f0 x.f1 x.f2 x.f3 l[n].f0.f0 l[n].f0.f1 l[n].f0.f2 l[n].f0.f3 = some (if l[n].f0.f0 = x.f0 then (if c = true then l5 x l (out ++ [toldI x]) true (l.drop (n + 1)) else l5 x l out done (l.drop (n + 1))) else (if c = true then l5 x l (out ++ [toldI x] ++ [l[n]]) true (l.drop (n + 1)) else l5 x l (out ++ [l[n]]) done (l.drop (n + 1)))) := by
   intro c _
   simp only [spec_l5Put.j2, Option.bind_some, rdI l n hn, w1]
   cases c
   ·simp only [Bool.false_eq_true, if_false]
    by_cases e : l[n].f0.f0 = x.f0
    ·rw [if_pos e, if_pos e]
     exact ih k (n + 1) out done (by omega) (by omega) (by omega) (by omega)
    ·rw [if_neg e, if_neg e, if_pos (by omega), if_pos (by omega), if_pos (by omega)]
     exact ih k (n + 1) (out ++ [l[n]]) done (by omega) (by omega) (by rw [List.length_append, List.length_singleton]; omega) (by omega)
   ·simp only [if_true]
    rw [if_pos (by omega)]
    by_cases e : l[n].f0.f0 = x.f0
    ·rw [if_pos e, if_pos e]
     exact ih k (n + 1) (out ++ [toldI x]) true (by omega) (by omega) (by rw [List.length_append, List.length_singleton]; omega) (by omega)
    ·rw [if_neg e, if_neg e, if_pos (by omega), if_pos (by omega), if_pos (by rw [List.length_append, List.length_singleton]; omega)]
     exact ih k (n + 1) (out ++ [toldI x] ++ [l[n]]) true (by omega) (by omega) (by simp only [List.length_append, List.length_singleton]; omega) (by omega)
  rw [List.drop_eq_getElem_cons hn]
  simp only [spec_l5Put.l0, l5]
  rw [if_pos (by omega), if_pos (by omega), rdI l n hn]
  by_cases e : l[n].f0.f0 = x.f0
  ·rw [if_pos e, if_pos e, s_l3Over, Option.bind_some]
   simp only [spec_l5Put.j1]
   show (if (!ovI x l[n].f0) = true then _ else _) = _
   cases ho : ovI x l[n].f0
   ·rfl
   ·rw [if_neg (by decide), if_pos rfl]
    cases done
    ·rw [if_neg (by decide), j2 _ (.inl ho), if_pos e, decide_eq_true (by omega)]; rfl
    ·rw [if_pos rfl, j2 _ (.inl ho), if_pos e]; rfl
  ·rw [if_neg e, if_neg e]
   simp only [spec_l5Put.j1]
   rw [if_neg (by decide)]
   cases done
   ·rw [if_neg (by decide), j2 _ (.inr e), if_neg e]
    by_cases g : l[n].f0.f0 ≥ x.f0
    ·rw [decide_eq_true g, if_pos g]; rfl
    ·rw [decide_eq_false g, if_neg g]; rfl
   ·rw [if_pos rfl, j2 _ (.inr e), if_neg e, if_pos rfl]; rfl
theorem s_put5 (x : S30) (l : List S57) (hl : l.length ≤ 100000000) (k : Nat) (hk : 3 * l.length < k) : spec_l5Put.f k l x.f0 x.f1 x.f2 x.f3 = some (l5 x l [] false l) := s_put5_loop x l hl l.length k 0 [] false (by omega) (by omega) (by simp) (by omega)
theorem l5_done (x : S30) (l : List S57) : ∀ (rest out : List S57), (∀ y ∈ rest, x.f0 < y.f0.f0) → l5 x l out true rest = out ++ rest
 | [], out, _ => by simp [l5]
 | y :: ys, out, h => by
  have := h y List.mem_cons_self
  simp only [l5]
  rw [if_neg (by omega)]
  simp only [if_true]
  rw [l5_done x l ys _ (fun z hz => h z (List.mem_cons_of_mem _ hz)), List.append_assoc]; rfl
theorem l5_put (x : S30) (l : List S57) : ∀ (rest out : List S57), rest.Pairwise (fun a b => a.f0.f0 < b.f0.f0) → l5 x l out false rest = ((putR x rest).map (out ++ ·)).getD l
 | [], out, _ => by simp [l5, putR]
 | y :: ys, out, h => by
  obtain ⟨h1, h2⟩ := List.pairwise_cons.1 h
  simp only [l5, putR]
  by_cases c1 : y.f0.f0 < x.f0
  ·rw [if_neg (by omega), if_neg (by decide), if_neg (by omega), if_pos c1, l5_put x l ys _ h2]
   cases putR x ys <;> simp
  ·rw [if_neg c1]
   by_cases c2 : y.f0.f0 = x.f0
   ·rw [if_pos c2, if_pos c2]
    cases ho : ovI x y.f0
    ·rfl
    ·rw [if_pos rfl, if_neg (by decide), if_pos rfl, l5_done x l ys _ (fun z hz => by have := h1 z hz; omega)]
     simp
   ·rw [if_neg c2, if_neg (by decide), if_pos (by omega), if_neg c2, l5_done x l ys _ (fun z hz => by have := h1 z hz; omega)]
    simp
theorem l5_putI (x : S30) (l : List S57) (h : l.Pairwise (fun a b => a.f0.f0 < b.f0.f0)) : l5 x l [] false l = putI x l := by
 rw [l5_put x l l [] h]
 unfold putI
 cases putR x l <;> rfl
theorem putR_at (x : S30) : ∀ (l : List S57) (m : Nat), m ≤ l.length → (∀ t (h : t < l.length), t < m → l[t].f0.f0 < x.f0) → (∀ t (h : t < l.length), m ≤ t → x.f0 ≤ l[t].f0.f0) →
  (∀ h : m < l.length, (l[m]'h).f0.f0 = x.f0 → putR x l = if ovI x (l[m]'h).f0 = true then some (l.set m (toldI x)) else none) ∧ ((∀ h : m < l.length, (l[m]'h).f0.f0 ≠ x.f0) → putR x l = some (l.take m ++ [toldI x] ++ l.drop m))
 | [], m, h, _, _ => by
  simp at h; subst h
  exact ⟨fun h => by simp at h, fun _ => rfl⟩
 | y :: ys, 0, _, _, q => by
  have := q 0 (by simp) (Nat.le_refl _)
  simp only [List.getElem_cons_zero] at this
  refine ⟨fun h e => ?_, fun h => ?_⟩
  ·simp only [List.getElem_cons_zero] at e ⊢
   simp only [putR, List.set_cons_zero]
   rw [if_neg (by omega), if_pos e]
  ·have := h (by simp)
   simp only [List.getElem_cons_zero] at this
   simp only [putR]
   rw [if_neg (by omega), if_neg this]; rfl
 | y :: ys, m + 1, h, p, q => by
  have h0 := p 0 (by simp) (by omega)
  simp only [List.getElem_cons_zero] at h0
  obtain ⟨i1, i2⟩ := putR_at x ys m (by simpa using h) (fun t ht htm => p (t + 1) (Nat.succ_lt_succ ht) (by omega)) (fun t ht htm => q (t + 1) (Nat.succ_lt_succ ht) (by omega))
  refine ⟨fun hm e => ?_, fun hn => ?_⟩
  ·have hm' : m < ys.length := by simpa using hm
   have e' : (ys[m]'hm').f0.f0 = x.f0 := e
   simp only [putR, List.set_cons_succ, List.getElem_cons_succ]
   rw [if_pos h0, i1 hm' e']
   by_cases ho : ovI x (ys[m]'hm').f0 = true
   ·rw [if_pos ho, if_pos ho]; rfl
   ·rw [if_neg ho, if_neg ho]; rfl
  ·simp only [putR]
   rw [if_pos h0, i2 (fun hm => hn (Nat.succ_lt_succ hm))]; rfl
theorem cOk_iff (l : List S57) : cOk l = true ↔ tOk (l.map (·.f0)) = true ∧ leftB l = true := by
 unfold cOk tOk
 rw [castB_eq, Bool.and_eq_true]
theorem cOk_pw (l : List S57) (h : cOk l = true) : l.Pairwise (fun a b => a.f0.f0 < b.f0.f0) := (List.pairwise_map (f := fun b : S57 => b.f0) (R := fun a b => a.f0 < b.f0)).1 ((tOk_iff _).1 ((cOk_iff l).1 h).1).2
def cput (x : S30) (l : List S57) : List S57 := if cOk l = true then (if fok x = true then putI x l else []) else []
theorem cput_length (x : S30) (l : List S57) : (cput x l).length ≤ l.length + 1 := by
 unfold cput
 split
 ·split
  ·exact putI_length x l
  ·simp
 ·simp
theorem s_cput (x : S30) (l : List S57) (hl : l.length ≤ 10000000) (k : Nat) (hk : 3 * l.length < k) : spec_CastPut.f k l x.f0 x.f1 x.f2 x.f3 = some (cput x l) := by
 simp only [spec_CastPut.f, s_cast l (by omega) k (by omega), s_factOk, s_put5 x l (by omega) k hk, Option.bind_some, List.length_nil, Nat.zero_add, List.nil_append, cput]
 by_cases h : cOk l = true
 ·rw [if_pos h, if_pos h]
  show (if fok x = true then _ else _) = _
  by_cases h2 : fok x = true
  ·rw [if_pos h2, if_pos h2, l5_putI x l (cOk_pw l h), if_pos (by have := putI_length x l; omega)]
  ·rw [if_neg h2, if_neg h2]
 ·rw [if_neg h, if_neg h]
theorem i_cput (x : S30) (l : List S57) (hl : l.length ≤ 10000000) (k : Nat) (hk : l.length + 9 < k) : impl_CastPut.f k l x.f0 x.f1 x.f2 x.f3 = some (cput x l) := by
 obtain ⟨k, rfl⟩ : ∃ m, k = m + 1 := ⟨k - 1, by omega⟩
 simp only [impl_CastPut.f, i_cast l (by omega) (k + 1) (by omega), i_factOk, Option.bind_some, cput]
 by_cases h : cOk l = true
 ·rw [if_pos h, if_pos h]
  show impl_CastPut.j0 (k + 1) l (!fok x) x.f0 x.f1 x.f2 x.f3 = some (if fok x = true then putI x l else [])
  by_cases h2 : fok x = true
  ·have hlen : (l.map (·.f0)).length = l.length := List.length_map ..
   obtain ⟨m, b, hf, hm, hp, hq, hb1, hb0⟩ := i_find (l.map (·.f0)) x.f0 (by omega) ((cOk_iff l).1 h).1 k (by omega)
   rw [hlen] at hm
   have hp' : ∀ t (h : t < l.length), t < m → l[t].f0.f0 < x.f0 := fun t ht htm => by have := hp t (by omega) htm; rwa [List.getElem_map] at this
   have hq' : ∀ t (h : t < l.length), m ≤ t → x.f0 ≤ l[t].f0.f0 := fun t ht htm => by have := hq t (by omega) htm; rwa [List.getElem_map] at this
   obtain ⟨r1, r2⟩ := putR_at x l m hm hp' hq'
   rw [if_pos h2, h2]
   simp only [impl_CastPut.j0, Bool.not_true, Bool.false_eq_true, if_false, impl_Item_55.f, Option.bind_some, List.length_nil, Nat.zero_add, List.nil_append]
   rw [if_pos (by omega)]
   simp only [Option.bind_some, i_facts l (by omega) k (by omega), hf]
   unfold putI
   cases b
   ·rw [if_neg (by decide), r2 (fun hm' => by have := hb0 rfl m (by omega); rwa [List.getElem_map] at this)]
    simp only [impl_Item_57.f, Option.bind_some, List.nil_append, Int.toNat_natCast]
    rw [if_pos (by omega), if_pos (by omega), if_neg (by simp), if_pos (by simp only [List.length_nil, List.length_take]; omega), if_pos (by simp only [List.length_take, List.length_singleton]; omega), if_pos (by simp only [List.length_append, List.length_take, List.length_singleton, List.length_drop]; omega)]
    by_cases hz : (l.length : Int) = 0
    ·obtain rfl : l = [] := List.eq_nil_of_length_eq_zero (by omega)
     rw [if_pos (by rfl)]
     simp [toldI]
    ·rw [if_neg hz]
     rfl
   ·obtain ⟨hml, he⟩ := hb1 rfl
    rw [hlen] at hml
    rw [List.getElem_map] at he
    rw [if_pos rfl, if_pos (by omega), if_pos (by omega), rdI l m hml, he, compare_eq _ _ _ _ _ _ _ _ k (by omega), Option.bind_some, r1 hml he, Int.toNat_natCast]
    have hc := cmpF_pos x.f0 x.f1 x.f2 x.f3 l[m].f0.f1 l[m].f0.f2 l[m].f0.f3
    cases ho : ovI x l[m].f0
    ·rw [show overB x.f1 x.f2 x.f3 l[m].f0.f1 l[m].f0.f2 l[m].f0.f3 = false from ho] at hc
     rw [if_neg (of_decide_eq_false hc), if_neg (by decide)]; rfl
    ·rw [show overB x.f1 x.f2 x.f3 l[m].f0.f1 l[m].f0.f2 l[m].f0.f3 = true from ho] at hc
     rw [if_pos (of_decide_eq_true hc), if_pos rfl]; rfl
  ·have h3 : fok x = false := by simpa using h2
   rw [if_neg h2, h3]
   simp only [impl_CastPut.j0, Bool.not_false, if_true]
 ·rw [if_neg h, if_neg h]
  simp only [impl_CastPut.j0, if_true]
/-! marks in items -/
def mkI (a : Int) : S57 := ⟨⟨a, a + 1, a + 2, (Int.tmod (a + 3) 3 == 0)⟩, a + 4⟩
def markLI (a : Int) : List S57 → List S57
 | [] => []
 | _ :: xs => mkI a :: markLI (a + 5) xs
theorem markLI_length (a : Int) (l : List S57) : (markLI a l).length = l.length := by
 induction l generalizing a with
 | nil => rfl
 | cons x xs ih => simp only [markLI, List.length_cons, ih]
theorem rd_setI (l : List S57) (n : Nat) (h : n < l.length) (v : S57) : rd_T57 (l.set n v) (n : Int) = v := by
 rw [rdI _ n (by rw [List.length_set]; exact h), List.getElem_set_self]
theorem markI_loop (d : Nat) : ∀ (k n : Nat) (l : List S57) (a : Int), l.length ≤ 1000000000000 → 0 ≤ a → a ≤ 1000000000000 + 5 * n → n ≤ l.length → l.length - n = d → d < k → laws_markItemS.l0 k l a (n : Int) = some (a + 5 * d, l.take n ++ markLI a (l.drop n)) := by
 induction d with
 | zero =>
  intro k n l a hl ha ha' h0 h1 h2
  obtain ⟨k, rfl⟩ : ∃ m, k = m + 1 := ⟨k - 1, by omega⟩
  obtain rfl : n = l.length := by omega
  simp only [laws_markItemS.l0]
  rw [if_neg (by omega), List.take_length, List.drop_length]
  simp only [markLI, List.append_nil]
  congr 2; omega
 | succ d ih =>
  intro k n l a hl ha ha' h0 h1 h2
  obtain ⟨k, rfl⟩ : ∃ m, k = m + 1 := ⟨k - 1, by omega⟩
  have hn : n < l.length := by omega
  have w1 : wrap64 ((n : Int) + 1) = ((n + 1 : Nat) : Int) := by rw [w64 (by omega) (by omega)]; omega
  have w2 : wrap64 (a + 1) = a + 1 := w64 (by omega) (by omega)
  have w3 : wrap64 (a + 1 + 1) = a + 2 := by rw [w64 (by omega) (by omega)]; omega
  have w4 : wrap64 (a + 2 + 1) = a + 3 := by rw [w64 (by omega) (by omega)]; omega
  have w5 : wrap64 (a + 3 + 1) = a + 4 := by rw [w64 (by omega) (by omega)]; omega
  have w6 : wrap64 (a + 4 + 1) = a + 5 := by rw [w64 (by omega) (by omega)]; omega
  simp only [laws_markItemS.l0, Option.bind_some, w2, w3, w4, w5, w6, w1, Int.toNat_natCast]
  rw [if_pos (by omega), if_pos (by omega)]
  simp only [rd_setI l n hn, List.set_set]
  have ih' := ih k (n + 1) (l.set n (mkI a)) (a + 5) (by rw [List.length_set]; omega) (by omega) (by omega) (by rw [List.length_set]; omega) (by rw [List.length_set]; omega) (by omega)
  refine ih'.trans ?_
  have e1 : (l.set n (mkI a)).take (n + 1) = l.take n ++ [mkI a] := by
   rw [List.take_succ_eq_append_getElem (by rw [List.length_set]; exact hn), List.getElem_set_self, List.take_set_of_le (Nat.le_refl n)]
  have e2 : (l.set n (mkI a)).drop (n + 1) = l.drop (n + 1) := List.drop_set_of_lt (Nat.lt_succ_self n)
  rw [e1, e2, List.drop_eq_getElem_cons hn]
  simp only [markLI, List.append_assoc, List.singleton_append]
  congr 2; omega
theorem markI5 (l : List S57) (a : Int) (ha : 0 ≤ a) (ha' : a ≤ 1000000000000) (hl : l.length ≤ 1000000000000) (k : Nat) (hk : l.length < k) : laws_markItemS.f k l a = some (a + 5 * (l.length : Int), markLI a l) := by
 have := markI_loop l.length k 0 l a hl ha (by omega) (by omega) (by omega) hk
 rw [List.take_zero, List.nil_append, List.drop_zero] at this
 exact this
theorem heldI_loop (d : Nat) : ∀ (k n : Nat) (l : List S57) (a : Int), l.length ≤ 1000000000000 → 0 ≤ a → a ≤ 1000000000000 + 5 * n → n ≤ l.length → l.length - n = d → d < k → (∃ q, l.drop n = markLI a q) → laws_heldItemS.l0 k l a (n : Int) = some (a + 5 * d) := by
 induction d with
 | zero =>
  intro k n l a hl ha ha' h0 h1 h2 hq
  obtain ⟨k, rfl⟩ : ∃ m, k = m + 1 := ⟨k - 1, by omega⟩
  simp only [laws_heldItemS.l0]
  rw [if_neg (by omega)]
  congr 1; omega
 | succ d ih =>
  intro k n l a hl ha ha' h0 h1 h2 hq
  obtain ⟨k, rfl⟩ : ∃ m, k = m + 1 := ⟨k - 1, by omega⟩
  have hn : n < l.length := by omega
  have w1 : wrap64 ((n : Int) + 1) = ((n + 1 : Nat) : Int) := by rw [w64 (by omega) (by omega)]; omega
  have w2 : wrap64 (a + 1) = a + 1 := w64 (by omega) (by omega)
  have w3 : wrap64 (a + 1 + 1) = a + 2 := by rw [w64 (by omega) (by omega)]; omega
  have w4 : wrap64 (a + 2 + 1) = a + 3 := by rw [w64 (by omega) (by omega)]; omega
  have w5 : wrap64 (a + 3 + 1) = a + 4 := by rw [w64 (by omega) (by omega)]; omega
  have w6 : wrap64 (a + 4 + 1) = a + 5 := by rw [w64 (by omega) (by omega)]; omega
  obtain ⟨q, hq⟩ := hq
  rw [List.drop_eq_getElem_cons hn] at hq
  cases q with
  | nil => simp [markLI] at hq; omega
  | cons y ys =>
   simp only [markLI, List.cons.injEq] at hq
   have e0 : rd_T57 l (n : Int) = mkI a := (rdI l n hn).trans hq.1
   simp only [laws_heldItemS.l0, w2, w3, w4, w5, w6, w1, e0, mkI]
   rw [if_pos (by omega), if_pos (by omega), if_pos trivial, if_pos trivial, if_pos trivial, if_neg (by simp), if_pos trivial]
   refine (ih k (n + 1) l (a + 5) hl (by omega) (by omega) (by omega) (by omega) (by omega) ⟨ys, hq.2⟩).trans ?_
   congr 1; omega
theorem heldI5 (l : List S57) (a : Int) (ha : 0 ≤ a) (ha' : a ≤ 1000000000000) (hl : l.length ≤ 1000000000000) (k : Nat) (hk : l.length < k) : laws_heldItemS.f k (markLI a l) a = some (a + 5 * (l.length : Int)) := by
 have := heldI_loop l.length k 0 (markLI a l) a (by rw [markLI_length]; exact hl) ha (by omega) (by omega) (by rw [markLI_length]; omega) hk ⟨l, by simp⟩
 exact this
theorem FnExactCastPut : laws_FnExactCastPut.Pure := by
 intro l a b c e hl _ _ _ _
 obtain ⟨m, hm, hs⟩ := szIS l hl
 refine ⟨(3 * l.length + 20) + 1, ?_⟩
 simp only [laws_FnExactCastPut.f, hm, Option.bind_some]
 by_cases h0 : m < 0
 ·rw [if_pos h0]
 ·rw [if_neg h0]
  have hl' := hs (by omega)
  generalize hx : (⟨a, b, c, e⟩ : S30) = x
  obtain rfl : a = x.f0 := by rw [← hx]
  obtain rfl : b = x.f1 := by rw [← hx]
  obtain rfl : c = x.f2 := by rw [← hx]
  obtain rfl : e = x.f3 := by rw [← hx]
  have hlen : (l.map convJ).length = l.length := List.length_map ..
  have t1 := fun k (h : l.length < k) => toIS l hl' k h
  generalize hL : l.map convJ = L at t1 hlen
  have hT := cput_length x L
  have hs1 := fun k (h : 3 * L.length < k) => s_cput x L (by omega) k h
  have hi1 := fun k (h : L.length + 9 < k) => i_cput x L (by omega) k h
  generalize hW : cput x L = W at hT hs1 hi1
  generalize hk : 3 * l.length + 20 = k
  simp only [t1 (k + 1) (by omega), laws_toFact.f, hs1 (k + 1) (by omega), hi1 (k + 1) (by omega), eqIS W (by omega) (k + 1) (by omega), eqIS L (by omega) (k + 1) (by omega), markI5 L 1 (by omega) (by omega) (by omega) (k + 1) (by omega), Option.bind_some, if_true]
  rw [if_neg (by omega)]
  simp only [laws_FnExactCastPut.j0, Bool.not_true, Bool.false_eq_true, if_false, markI5 W 1 (by omega) (by omega) (by omega) k (by omega), heldI5 W 1 (by omega) (by omega) (by omega) k (by omega), t1 k (by omega), laws_toFact.f, hi1 k (by omega), eqIS W (by omega) k (by omega), Option.bind_some, if_true]
  rw [if_neg (by omega), if_neg (by omega)]
end Go.Proofs.Ytjaihhgkcdnhnaa.Pure
