/- The program's TableJoin answers as the reference's, for all lists of facts, leaves both lists as they are, and answers in its own memory. Conditions: none beyond the row's reach. -/
import Derived.Test.YtjaihhgkcdnhnaaPFnExactTableJoinx
set_option linter.unusedVariables false
set_option linter.unusedSimpArgs false
namespace Go.Proofs.Ytjaihhgkcdnhnaa.Pure
open Go.RowKit Go.Proofs.Ytjaihhgkcdnhnaa.PFnExactTableJoin Go.Proofs.YtjaihhgkcdnhnaaW.PrintWords Go.Proofs.YtjaihhgkcdnhnaaW.PrintLast Go.Proofs.YtjaihhgkcdnhnaaW.PrintMore
theorem w64 {n : Int} (h : -9223372036854775808 ≤ n) (h' : n ≤ 9223372036854775807) : wrap64 n = n := by unfold wrap64; omega
theorem lt_ge (a b : Int) : a < b ∨ b ≤ a := by omega
/-! ranges -/
theorem s_in (a l h : Int) : spec_l1In.f a l h = some (decide (l ≤ a) && decide (a ≤ h)) := by
  simp only [spec_l1In.f]
  by_cases h1 : a ≥ l
  · rw [if_pos h1, decide_eq_true (show l ≤ a from h1)]; rfl
  · rw [if_neg h1, decide_eq_false (show ¬ l ≤ a from h1)]; rfl
theorem i_in (a l h : Int) : impl_in.f a l h = some (decide (l ≤ a) && decide (a ≤ h)) := by
  simp only [impl_in.f]
  by_cases h1 : a ≥ l
  · rw [if_pos h1, decide_eq_true (show l ≤ a from h1)]; rfl
  · rw [if_neg h1, decide_eq_false (show ¬ l ≤ a from h1)]; rfl
theorem if_some {α : Type} (c : Bool) (x : α) (y z : Bool) : (if c = true then some y else some z : Option Bool) = some (if c = true then y else z) := by cases c <;> rfl
def inB (a l h : Int) : Bool := decide (l ≤ a) && decide (a ≤ h)
def factOk (n i s : Int) : Bool := inB n 0 7 && (inB i 0 999 && inB s 1 4)
theorem s_factOk (a b c : Int) (d : Bool) : spec_FactOk.f a b c d = some (factOk a b c) := by
  simp only [spec_FactOk.f, s_in, Option.bind_some, factOk, inB]
  cases (decide (0 ≤ a) && decide (a ≤ 7)) <;> cases (decide (0 ≤ b) && decide (b ≤ 999)) <;> simp
theorem i_factOk (a b c : Int) (d : Bool) : impl_FactOk.f a b c d = some (factOk a b c) := by
  simp only [impl_FactOk.f, impl_isNode.f, i_in, Option.bind_some, factOk, inB]
  cases (decide (0 ≤ a) && decide (a ≤ 7)) <;> cases (decide (0 ≤ b) && decide (b ≤ 999)) <;> simp
/-! tables: S30 a fact of the program's, S24 the statement's own -/
def fok (x : S30) : Bool := factOk x.f0 x.f1 x.f2
def tabB : Int → List S30 → Bool
  | _, [] => true
  | p, x :: xs => fok x && (decide (p < x.f0) && tabB x.f0 xs)
def prevOf (l : List S30) (n : Nat) : Int := if n = 0 then -1 else (rd_T30 l ((n - 1 : Nat) : Int)).f0
theorem fok_node {x : S30} (h : fok x = true) : 0 ≤ x.f0 ∧ x.f0 ≤ 7 ∧ 0 ≤ x.f1 ∧ x.f1 ≤ 999 ∧ 1 ≤ x.f2 ∧ x.f2 ≤ 4 := by
  simp only [fok, factOk, inB, Bool.and_eq_true, decide_eq_true_eq] at h
  omega
theorem rdF (l : List S30) (n : Nat) (h : n < l.length) : rd_T30 l (n : Int) = l[n] := by
  unfold rd_T30
  rw [Int.toNat_natCast, List.getD_eq_getElem?_getD, List.getElem?_eq_getElem h]; rfl
theorem tabB_step (l : List S30) (n : Nat) (h : n < l.length) : tabB (prevOf l n) (l.drop n) = (fok l[n] && (decide (prevOf l n < l[n].f0) && tabB (prevOf l (n + 1)) (l.drop (n + 1)))) := by
  rw [List.drop_eq_getElem_cons h]
  have e : prevOf l (n + 1) = l[n].f0 := by unfold prevOf; rw [if_neg (by omega), Nat.add_sub_cancel, rdF l n h]
  rw [e]; rfl
theorem s_tab_loop (l : List S30) (hl : l.length ≤ 1000000000000) (d : Nat) : ∀ (k n : Nat), n ≤ l.length → l.length - n = d → d < k → spec_TableOk.l0 k l (n : Int) = some (tabB (prevOf l n) (l.drop n)) := by
  induction d with
  | zero =>
    intro k n h0 h1 h2
    obtain ⟨k, rfl⟩ : ∃ m, k = m + 1 := ⟨k - 1, by omega⟩
    obtain rfl : n = l.length := by omega
    simp only [spec_TableOk.l0]; rw [if_neg (by omega), List.drop_length]; rfl
  | succ d ih =>
    intro k n h0 h1 h2
    obtain ⟨k, rfl⟩ : ∃ m, k = m + 1 := ⟨k - 1, by omega⟩
    have hn : n < l.length := by omega
    have ih' := ih k (n + 1) (by omega) (by omega) (by omega)
    have w1 : wrap64 ((n : Int) + 1) = ((n + 1 : Nat) : Int) := by rw [w64 (by omega) (by omega)]; omega
    rw [tabB_step l n hn]
    simp only [spec_TableOk.l0]
    rw [if_pos (by omega), if_pos (by omega), s_factOk, rdF l n hn, w1, ih']
    simp only [Option.bind_some]
    show (if fok l[n] = true then _ else _) = _
    cases hf : fok l[n]
    · rfl
    · obtain ⟨f0, -⟩ := fok_node hf
      rw [if_pos rfl, Bool.true_and]
      by_cases hz : n = 0
      · subst hz
        rw [if_neg (by omega), decide_eq_true (by unfold prevOf; rw [if_pos rfl]; omega), Bool.true_and]
      · have w2 : wrap64 ((n : Int) - 1) = ((n - 1 : Nat) : Int) := by rw [w64 (by omega) (by omega)]; omega
        have hp : prevOf l n = l[n - 1].f0 := by unfold prevOf; rw [if_neg hz, rdF l (n - 1) (by omega)]
        rw [if_pos (by omega), w2, if_pos (by omega), if_pos (by omega), rdF l (n - 1) (by omega), hp]
        by_cases hlt : l[n - 1].f0 < l[n].f0
        · rw [if_neg (by omega), decide_eq_true hlt, Bool.true_and]
        · rw [if_pos (by omega), decide_eq_false hlt, Bool.false_and]
theorem i_tab_loop (l : List S30) (hl : l.length ≤ 1000000000000) (d : Nat) : ∀ (k n : Nat), n ≤ l.length → l.length - n = d → d < k → impl_TableOk.l0 k l l (l.length : Int) (n : Int) = some (tabB (prevOf l n) (l.drop n)) := by
  induction d with
  | zero =>
    intro k n h0 h1 h2
    obtain ⟨k, rfl⟩ : ∃ m, k = m + 1 := ⟨k - 1, by omega⟩
    obtain rfl : n = l.length := by omega
    simp only [impl_TableOk.l0]; rw [if_neg (by omega), List.drop_length]; rfl
  | succ d ih =>
    intro k n h0 h1 h2
    obtain ⟨k, rfl⟩ : ∃ m, k = m + 1 := ⟨k - 1, by omega⟩
    have hn : n < l.length := by omega
    have ih' := ih k (n + 1) (by omega) (by omega) (by omega)
    have w1 : wrap64 ((n : Int) + 1) = ((n + 1 : Nat) : Int) := by rw [w64 (by omega) (by omega)]; omega
    rw [tabB_step l n hn]
    simp only [impl_TableOk.l0]
    rw [if_pos (by omega), if_pos (by omega), if_pos (by omega), i_factOk, rdF l n hn, w1, ih']
    simp only [Option.bind_some]
    show (if fok l[n] = true then _ else _) = _
    cases hf : fok l[n]
    · rfl
    · obtain ⟨f0, -⟩ := fok_node hf
      rw [if_pos rfl, Bool.true_and]
      by_cases hz : n = 0
      · subst hz
        rw [if_neg (by omega), decide_eq_true (by unfold prevOf; rw [if_pos rfl]; omega), Bool.true_and]
      · have w2 : wrap64 ((n : Int) - 1) = ((n - 1 : Nat) : Int) := by rw [w64 (by omega) (by omega)]; omega
        have hp : prevOf l n = l[n - 1].f0 := by unfold prevOf; rw [if_neg hz, rdF l (n - 1) (by omega)]
        rw [if_pos (by omega), w2, if_pos (by omega), if_pos (by omega), rdF l (n - 1) (by omega), hp]
        by_cases hlt : l[n - 1].f0 < l[n].f0
        · rw [if_neg (by omega), decide_eq_true hlt, Bool.true_and]
        · rw [if_pos (by omega), decide_eq_false hlt, Bool.false_and]
def tOk (l : List S30) : Bool := tabB (-1) l
theorem s_tab (l : List S30) (hl : l.length ≤ 1000000000000) (k : Nat) (hk : l.length < k) : spec_TableOk.f k l = some (tOk l) := s_tab_loop l hl l.length k 0 (by omega) (by omega) hk
theorem i_tab (l : List S30) (hl : l.length ≤ 1000000000000) (k : Nat) (hk : l.length < k) : impl_TableOk.f k l = some (tOk l) := i_tab_loop l hl l.length k 0 (by omega) (by omega) hk
def conv (x : S24) : S30 := ⟨x.f0, x.f1, x.f2, x.f3⟩
theorem rdL (l : List S24) (n : Nat) (h : n < l.length) : rd_T24 l (n : Int) = l[n] := by
  unfold rd_T24
  rw [Int.toNat_natCast, List.getD_eq_getElem?_getD, List.getElem?_eq_getElem h]; rfl
theorem toS_loop (l : List S24) (hl : l.length ≤ 1000000000000) (d : Nat) : ∀ (k n : Nat), n ≤ l.length → l.length - n = d → d < k → laws_toFactS.l0 k l ((l.take n).map conv ++ List.replicate (l.length - n) z30) (n : Int) = some (l.map conv) := by
  induction d with
  | zero =>
    intro k n h0 h1 h2
    obtain ⟨k, rfl⟩ : ∃ m, k = m + 1 := ⟨k - 1, by omega⟩
    obtain rfl : n = l.length := by omega
    simp only [laws_toFactS.l0]; rw [if_neg (by omega), List.take_length, Nat.sub_self]; simp
  | succ d ih =>
    intro k n h0 h1 h2
    obtain ⟨k, rfl⟩ : ∃ m, k = m + 1 := ⟨k - 1, by omega⟩
    have hn : n < l.length := by omega
    have ih' := ih k (n + 1) (by omega) (by omega) (by omega)
    have w1 : wrap64 ((n : Int) + 1) = ((n + 1 : Nat) : Int) := by rw [w64 (by omega) (by omega)]; omega
    have hlen : ((l.take n).map conv).length = n := by rw [List.length_map, List.length_take]; omega
    simp only [laws_toFactS.l0]
    rw [if_pos (by omega), if_pos (by omega)]
    simp only [laws_toFact.f, Option.bind_some]
    rw [if_pos (by rw [List.length_append, hlen, List.length_replicate]; omega), w1, rdL l n hn, Int.toNat_natCast, List.set_append_right (h := by omega), hlen, Nat.sub_self]
    have e : List.replicate (l.length - n) z30 = z30 :: List.replicate (l.length - (n + 1)) z30 := by rw [show l.length - n = (l.length - (n + 1)) + 1 by omega, List.replicate_succ]
    rw [e, List.set_cons_zero]
    have e2 : (l.take (n + 1)).map conv = (l.take n).map conv ++ [conv l[n]] := by rw [List.take_succ_eq_append_getElem hn, List.map_append]; rfl
    rw [e2, List.append_assoc] at ih'
    exact ih'
theorem toS (l : List S24) (hl : l.length ≤ 1048576) (k : Nat) (hk : l.length < k) : laws_toFactS.f k l = some (l.map conv) := by
  simp only [laws_toFactS.f, Int.toNat_natCast]
  rw [if_pos (by omega), if_pos (by omega)]
  have := toS_loop l (by omega) l.length k 0 (by omega) (by omega) hk
  simpa using this
theorem eqFact_self (x : S30) : laws_eqFact.f x.f0 x.f1 x.f2 x.f3 x.f0 x.f1 x.f2 x.f3 = some true := by
  simp only [laws_eqFact.f, if_true, bne_self_eq_false, Bool.false_eq_true, if_false]
theorem eqS_loop (l : List S30) (hl : l.length ≤ 1000000000000) (d : Nat) : ∀ (k n : Nat), n ≤ l.length → l.length - n = d → d < k → laws_eqFactS.l0 k l l (n : Int) = some true := by
  induction d with
  | zero =>
    intro k n h0 h1 h2
    obtain ⟨k, rfl⟩ : ∃ m, k = m + 1 := ⟨k - 1, by omega⟩
    simp only [laws_eqFactS.l0]; rw [if_neg (by omega)]
  | succ d ih =>
    intro k n h0 h1 h2
    obtain ⟨k, rfl⟩ : ∃ m, k = m + 1 := ⟨k - 1, by omega⟩
    have ih' := ih k (n + 1) (by omega) (by omega) (by omega)
    have w1 : wrap64 ((n : Int) + 1) = ((n + 1 : Nat) : Int) := by rw [w64 (by omega) (by omega)]; omega
    simp only [laws_eqFactS.l0]
    rw [if_pos (by omega), if_pos (by omega), if_pos (by omega), eqFact_self, w1]
    simp only [Option.bind_some, if_true]
    exact ih'
theorem eqS (l : List S30) (hl : l.length ≤ 1000000000000) (k : Nat) (hk : l.length < k) : laws_eqFactS.f k l l = some true := by
  simp only [laws_eqFactS.f, if_true]
  exact eqS_loop l hl l.length k 0 (by omega) (by omega) hk
theorem szS (l : List S24) (hl : l.length ≤ maxLen) : ∃ m, laws_szFactS.f l 1048576 = some m ∧ (0 ≤ m → l.length ≤ 1048576) := by
  unfold maxLen at hl
  have e : wrap64 (1048576 - (l.length : Int)) = 1048576 - (l.length : Int) := w64 (by omega) (by omega)
  simp only [laws_szFactS.f, e]
  by_cases h : 1048576 - (l.length : Int) < 0
  · rw [if_pos h]; exact ⟨_, rfl, by omega⟩
  · rw [if_neg h]; exact ⟨_, rfl, by omega⟩
/-! which fact overrides which -/
def cmpI (a b : Int) : Int := if a < b then -1 else if a > b then 1 else 0
theorem cmp_eq (a b : Int) : cmp_Compare_int.f a b = some (cmpI a b) := by
  simp only [cmp_Compare_int.f, cmp_isNaN_int.f, Option.bind_some, bne_self_eq_false, Bool.false_eq_true, if_false, cmpI]
  by_cases h : a < b
  · rw [if_pos h, if_pos h]
  · rw [if_neg h, if_neg h]
    by_cases h2 : a > b
    · rw [if_pos h2, if_pos h2]
    · rw [if_neg h2, if_neg h2]
theorem or4 (a b c d : Int) (k : Nat) (hk : 5 ≤ k) : cmp_Or_int.f k [a, b, c, d] = some (if a = 0 then (if b = 0 then (if c = 0 then d else c) else b) else a) := by
  obtain ⟨k, rfl⟩ : ∃ m, k = m + 5 := ⟨k - 5, by omega⟩
  have e0 : wrap64 (0 + 1) = 1 := w64 (by omega) (by omega)
  have e1 : wrap64 (1 + 1) = 2 := w64 (by omega) (by omega)
  have e2 : wrap64 (2 + 1) = 3 := w64 (by omega) (by omega)
  have e3 : wrap64 (3 + 1) = 4 := w64 (by omega) (by omega)
  have r0 : rd [a, b, c, d] 0 = a := rfl
  have r1 : rd [a, b, c, d] 1 = b := rfl
  have r2 : rd [a, b, c, d] 2 = c := rfl
  have r3 : rd [a, b, c, d] 3 = d := rfl
  have hl : (([a, b, c, d] : List Int).length : Int) = 4 := rfl
  simp only [cmp_Or_int.f, cmp_Or_int.l0, hl, r0, e0]
  rw [if_pos (by decide), if_pos (by decide), if_pos (by decide)]
  by_cases ha : a = 0
  · rw [if_pos ha, if_pos ha]
    simp only [r1, e1]
    rw [if_pos (by decide), if_pos (by decide), if_pos (by decide)]
    by_cases hb : b = 0
    · rw [if_pos hb, if_pos hb]
      simp only [r2, e2]
      rw [if_pos (by decide), if_pos (by decide), if_pos (by decide)]
      by_cases hc : c = 0
      · rw [if_pos hc, if_pos hc]
        simp only [r3, e3]
        rw [if_pos (by decide), if_pos (by decide), if_pos (by decide)]
        by_cases hd : d = 0
        · rw [if_pos hd, if_neg (by decide), hd]
        · rw [if_neg hd]
      · rw [if_neg hc, if_neg hc]
    · rw [if_neg hb, if_neg hb]
  · rw [if_neg ha, if_neg ha]
def gateI (f g : Bool) : Int := if (f && !g) = true then 1 else if (g && !f) = true then -1 else 0
def cmpF (n i s : Int) (f : Bool) (n' i' s' : Int) (g : Bool) : Int := if cmpI n n' = 0 then (if cmpI i i' = 0 then (if cmpI s s' = 0 then gateI f g else cmpI s s') else cmpI i i') else cmpI n n'
theorem compare_eq (n i s : Int) (f : Bool) (n' i' s' : Int) (g : Bool) (k : Nat) (hk : 8 ≤ k) : impl_Fact_compare.f k n i s f n' i' s' g = some (cmpF n i s f n' i' s' g) := by
  obtain ⟨k, rfl⟩ : ∃ m, k = m + 2 := ⟨k - 2, by omega⟩
  have hj : ∀ x, impl_Fact_compare.j1 (k + 1) x n i s f n' i' s' g = some (if cmpI n n' = 0 then (if cmpI i i' = 0 then (if cmpI s s' = 0 then x else cmpI s s') else cmpI i i') else cmpI n n') := by
    intro x
    simp only [impl_Fact_compare.j1, cmp_eq, Option.bind_some, or4 _ _ _ _ k (by omega)]
  simp only [impl_Fact_compare.f, impl_Fact_compare.j0, hj, cmpF]
  cases f <;> cases g <;> rfl
def overB (i s : Int) (f : Bool) (i' s' : Int) (g : Bool) : Bool := if i = i' then (if s = s' then f && !g else decide (s > s')) else decide (i > i')
theorem cmpI_zero (a b : Int) : cmpI a b = 0 ↔ a = b := by
  unfold cmpI
  split
  · omega
  · split <;> omega
theorem cmpI_pos (a b : Int) : (decide (cmpI a b > 0)) = decide (a > b) := by
  unfold cmpI
  split
  · rw [decide_eq_false (by omega), decide_eq_false (by omega)]
  · split
    · rw [decide_eq_true (by omega), decide_eq_true (by omega)]
    · rw [decide_eq_false (by omega), decide_eq_false (by omega)]
theorem cmpF_pos (n i s : Int) (f : Bool) (i' s' : Int) (g : Bool) : decide (cmpF n i s f n i' s' g > 0) = overB i s f i' s' g := by
  unfold cmpF overB
  rw [if_pos ((cmpI_zero _ _).mpr rfl)]
  by_cases h1 : i = i'
  · rw [if_pos ((cmpI_zero _ _).mpr h1), if_pos h1]
    by_cases h2 : s = s'
    · rw [if_pos ((cmpI_zero _ _).mpr h2), if_pos h2]
      cases f <;> cases g <;> rfl
    · rw [if_neg (fun h => h2 ((cmpI_zero _ _).mp h)), if_neg h2, cmpI_pos]
  · rw [if_neg (fun h => h1 ((cmpI_zero _ _).mp h)), if_neg h1, cmpI_pos]
def factOver (n i s : Int) (f : Bool) (n' i' s' : Int) (g : Bool) : Bool := factOk n i s && (factOk n' i' s' && (decide (n = n') && overB i s f i' s' g))
theorem s_l3Over (n i s : Int) (f : Bool) (n' i' s' : Int) (g : Bool) : spec_l3Over.f n i s f n' i' s' g = some (overB i s f i' s' g) := by
  simp only [spec_l3Over.f, overB]
  by_cases h1 : i = i'
  · rw [if_pos h1, if_pos h1]
    by_cases h2 : s = s'
    · rw [if_pos h2, if_pos h2]
      cases f <;> rfl
    · rw [if_neg h2, if_neg h2]
  · rw [if_neg h1, if_neg h1]
/-! places in tables -/
theorem tabB_pw : ∀ (p : Int) (l : List S30), tabB p l = true → (∀ x ∈ l, p < x.f0) ∧ l.Pairwise (fun a b => a.f0 < b.f0)
  | _, [], _ => ⟨fun x hx => (by cases hx), List.Pairwise.nil⟩
  | p, y :: ys, h => by
    simp only [tabB, Bool.and_eq_true, decide_eq_true_eq] at h
    obtain ⟨h1, h2, h3⟩ := h
    obtain ⟨i1, i2⟩ := tabB_pw _ _ h3
    refine ⟨fun x hx => ?_, List.Pairwise.cons (fun b hb => i1 b hb) i2⟩
    rcases List.mem_cons.1 hx with rfl | hx
    · exact h2
    · have := i1 x hx; omega
theorem tabB_fok : ∀ (p : Int) (l : List S30), tabB p l = true → ∀ x ∈ l, fok x = true
  | _, [], _ => fun x hx => (by cases hx)
  | p, y :: ys, h => by
    simp only [tabB, Bool.and_eq_true, decide_eq_true_eq] at h
    obtain ⟨h1, h2, h3⟩ := h
    intro x hx
    rcases List.mem_cons.1 hx with rfl | hx
    · exact h1
    · exact tabB_fok _ _ h3 x hx
theorem tabB_of : ∀ (p : Int) (l : List S30), (∀ x ∈ l, fok x = true) → (∀ x ∈ l, p < x.f0) → l.Pairwise (fun a b => a.f0 < b.f0) → tabB p l = true
  | _, [], _, _, _ => rfl
  | p, y :: ys, h1, h2, h3 => by
    simp only [tabB, Bool.and_eq_true, decide_eq_true_eq]
    obtain ⟨q1, q2⟩ := List.pairwise_cons.1 h3
    exact ⟨h1 y List.mem_cons_self, h2 y List.mem_cons_self, tabB_of _ _ (fun x hx => h1 x (List.mem_cons_of_mem _ hx)) (fun x hx => q1 x hx) q2⟩
theorem tOk_iff (l : List S30) : tOk l = true ↔ (∀ x ∈ l, fok x = true) ∧ l.Pairwise (fun a b => a.f0 < b.f0) :=
  ⟨fun h => ⟨tabB_fok _ _ h, (tabB_pw _ _ h).2⟩, fun h => tabB_of _ _ h.1 (fun x hx => by have := (fok_node (h.1 x hx)).1; omega) h.2⟩
theorem tab_lt (l : List S30) (h : tOk l = true) (i j : Nat) (hj : j < l.length) (hij : i < j) : (l[i]'(by omega)).f0 < l[j].f0 :=
  (List.pairwise_iff_getElem.1 (tabB_pw _ _ h).2) i j _ hj hij
def fnd (a : Int) : Int → List S30 → Int
  | _, [] => -1
  | n, x :: xs => if x.f0 = a then n else fnd a (n + 1) xs
theorem fnd_spec (a : Int) : ∀ (l : List S30) (n : Int), (fnd a n l = -1 ∧ ∀ x ∈ l, x.f0 ≠ a) ∨ (∃ i : Nat, ∃ h : i < l.length, fnd a n l = n + i ∧ (l[i]'h).f0 = a)
  | [], n => .inl ⟨rfl, fun x hx => (by cases hx)⟩
  | x :: xs, n => by
    by_cases e : x.f0 = a
    · exact .inr ⟨0, by simp, by simp only [fnd, if_pos e]; omega, e⟩
    · rcases fnd_spec a xs (n + 1) with ⟨h1, h2⟩ | ⟨i, hi, h1, h2⟩
      · refine .inl ⟨by simp only [fnd, if_neg e]; exact h1, fun y hy => ?_⟩
        rcases List.mem_cons.1 hy with rfl | hy
        · exact e
        · exact h2 y hy
      · exact .inr ⟨i + 1, by simpa using hi, by simp only [fnd, if_neg e, h1]; omega, h2⟩
theorem i_cmp (a b : Int) : cmp_Compare_int.f a b = some (cmpI a b) := by
  simp only [cmp_Compare_int.f, cmp_isNaN_int.f, Option.bind_some, bne_self_eq_false, Bool.false_eq_true, if_false, cmpI]
  split
  · rfl
  · split <;> rfl
theorem cmp_lt (a b : Int) : cmpI a b < 0 ↔ a < b := by
  unfold cmpI; split
  · exact ⟨fun _ => ‹_›, fun _ => by omega⟩
  · split <;> exact ⟨fun h => absurd h (by omega), fun h => absurd h ‹_›⟩
theorem cmp_zero (a b : Int) : (cmpI a b == 0) = decide (a = b) := by
  unfold cmpI; split
  · rw [decide_eq_false (by omega)]; rfl
  · split
    · rw [decide_eq_false (by omega)]; rfl
    · rw [decide_eq_true (by omega)]; rfl
theorem u64w {n : Int} (h : 0 ≤ n) (h' : n ≤ 9223372036854775807) : IntKind.u64.wrap n = n := by
  unfold IntKind.wrap; simp only [IntKind.bits, IntKind.signed]; first | omega | (simp; omega)
theorem half (i j : Nat) (hj : j ≤ 1000000000000) (hi : i ≤ 1000000000000) : wrap64 (IntKind.u64.wrap (wrap64 ((i : Int) + (j : Int))) / 2) = (((i + j) / 2 : Nat) : Int) := by
  rw [w64 (n := (i : Int) + j) (by omega) (by omega), u64w (by omega) (by omega), w64 (by omega) (by omega)]; omega
theorem i_bin (l : List S30) (a : Int) (hl : l.length ≤ 1000000000000) (hs : tOk l = true) (d : Nat) : ∀ (k i j : Nat), i ≤ j → j ≤ l.length → j - i ≤ d → d < k → (∀ t (h : t < l.length), t < i → l[t].f0 < a) → (∀ t (h : t < l.length), j ≤ t → a ≤ l[t].f0) →
    ∃ (m : Nat) (b : Bool), impl_Fact_int.l0 k l a (l.length : Int) (i : Int) (j : Int) = some ((m : Int), b) ∧ m ≤ l.length ∧ (∀ t (h : t < l.length), t < m → l[t].f0 < a) ∧ (∀ t (h : t < l.length), m ≤ t → a ≤ l[t].f0) ∧ (b = true → ∃ h : m < l.length, (l[m]'h).f0 = a) ∧ (b = false → ∀ t (h : t < l.length), l[t].f0 ≠ a) := by
  induction d with
  | zero =>
    intro k i j h1 h2 h3 h4 p q
    obtain ⟨k, rfl⟩ : ∃ m, k = m + 1 := ⟨k - 1, by omega⟩
    obtain rfl : i = j := by omega
    simp only [impl_Fact_int.l0]
    rw [if_neg (by omega)]
    by_cases hn : i < l.length
    · rw [if_pos (by omega), if_pos (by omega), if_pos (by omega), rdF l i hn]
      simp only [impl_find_1.f, i_cmp, Option.bind_some, cmp_zero]
      refine ⟨i, _, rfl, h2, p, q, fun hb => ⟨hn, of_decide_eq_true hb⟩, fun hb t ht he => ?_⟩
      have hne := of_decide_eq_false hb
      by_cases c1 : t < i
      · have := p t ht c1; omega
      · by_cases c2 : t = i
        · subst c2; exact hne he
        · have h5 := tab_lt l hs i t ht (by omega)
          have h6 := q i hn (by omega)
          omega
    · rw [if_neg (by omega)]
      refine ⟨i, false, rfl, h2, p, q, fun hb => (by cases hb), fun _ t ht he => ?_⟩
      have := p t ht (by omega); omega
  | succ d ih =>
    intro k i j h1 h2 h3 h4 p q
    obtain ⟨k, rfl⟩ : ∃ m, k = m + 1 := ⟨k - 1, by omega⟩
    by_cases hij : i < j
    · generalize hm : (i + j) / 2 = m
      have hmi : i ≤ m := by omega
      have hmj : m < j := by omega
      have hml : m < l.length := by omega
      have hw := half i j (by omega) (by omega)
      rw [hm] at hw
      have w1 : wrap64 ((m : Int) + 1) = ((m + 1 : Nat) : Int) := by rw [w64 (by omega) (by omega)]; omega
      simp only [impl_Fact_int.l0, hw, w1]
      clear hw w1
      rw [if_pos (by omega), if_pos (by omega), if_pos (by omega), rdF l m hml]
      simp only [impl_find_1.f, i_cmp, Option.bind_some, cmp_lt]
      by_cases hc : l[m].f0 < a
      · rw [if_pos hc]
        refine ih k (m + 1) j (by omega) h2 (by omega) (by omega) (fun t ht htm => ?_) q
        by_cases e : t = m
        · subst e; exact hc
        · have := tab_lt l hs t m hml (by omega); omega
      · rw [if_neg hc]
        refine ih k i m (by omega) (by omega) (by omega) (by omega) p (fun t ht htm => ?_)
        by_cases e : t = m
        · subst e; omega
        · have := tab_lt l hs m t ht (by omega); omega
    · obtain rfl : i = j := by omega
      exact ih (k + 1) i i (by omega) h2 (by omega) (by omega) p q
theorem i_find (l : List S30) (a : Int) (hl : l.length ≤ 1000000000000) (hs : tOk l = true) (k : Nat) (hk : l.length < k) : ∃ (m : Nat) (b : Bool), impl_find.f k l a = some ((m : Int), b) ∧ m ≤ l.length ∧ (∀ t (h : t < l.length), t < m → l[t].f0 < a) ∧ (∀ t (h : t < l.length), m ≤ t → a ≤ l[t].f0) ∧ (b = true → ∃ h : m < l.length, (l[m]'h).f0 = a) ∧ (b = false → ∀ t (h : t < l.length), l[t].f0 ≠ a) := by
  obtain ⟨m, b, h1, h2⟩ := i_bin l a hl hs l.length k 0 l.length (by omega) (by omega) (by omega) hk (fun t ht h => absurd h (by omega)) (fun t ht h => absurd ht (by omega))
  refine ⟨m, b, ?_, h2⟩
  simp only [impl_find.f, impl_Fact_int.f]
  rw [show ((0 : Int)) = ((0 : Nat) : Int) from rfl, h1]; rfl
def pos (a : Int) : List S30 → Nat
  | [] => 0
  | y :: ys => if y.f0 < a then pos a ys + 1 else 0
theorem pos_le (a : Int) : ∀ l : List S30, pos a l ≤ l.length
  | [] => Nat.le_refl _
  | y :: ys => by
    have := pos_le a ys
    simp only [pos, List.length_cons]
    split <;> omega
theorem pos_lt (a : Int) : ∀ (l : List S30), ∀ x ∈ l.take (pos a l), x.f0 < a
  | [], x, hx => by simp at hx
  | y :: ys, x, hx => by
    simp only [pos] at hx
    by_cases h : y.f0 < a
    · rw [if_pos h, List.take_succ_cons] at hx
      rcases List.mem_cons.1 hx with rfl | hx
      · exact h
      · exact pos_lt a ys x hx
    · rw [if_neg h] at hx
      simp at hx
theorem pos_at (a : Int) : ∀ (l : List S30) (h : pos a l < l.length), ¬ (l[pos a l]).f0 < a
  | [], h => by simp at h
  | y :: ys, h => by
    by_cases c : y.f0 < a
    · have hp : pos a (y :: ys) = pos a ys + 1 := by simp only [pos, if_pos c]
      have h2 : pos a ys < ys.length := by rw [hp] at h; simpa using h
      have := pos_at a ys h2
      simp only [hp, List.getElem_cons_succ]
      exact this
    · have hp : pos a (y :: ys) = 0 := by simp only [pos, if_neg c]
      simp only [hp, List.getElem_cons_zero]
      exact c
theorem pos_eq (a : Int) : ∀ (l : List S30) (m : Nat), m ≤ l.length → (∀ t (h : t < l.length), t < m → l[t].f0 < a) → (∀ t (h : t < l.length), m ≤ t → a ≤ l[t].f0) → m = pos a l
  | [], m, h, _, _ => by simp at h; exact h
  | y :: ys, m, h, p, q => by
    by_cases c : y.f0 < a
    · simp only [pos, if_pos c]
      obtain ⟨m, rfl⟩ : ∃ j, m = j + 1 := by
        rcases m with _ | m
        · have := q 0 (by simp) (Nat.le_refl _)
          simp only [List.getElem_cons_zero] at this
          omega
        · exact ⟨m, rfl⟩
      rw [pos_eq a ys m (by simpa using h) (fun t ht htm => p (t + 1) (Nat.succ_lt_succ ht) (by omega)) (fun t ht htm => q (t + 1) (Nat.succ_lt_succ ht) (by omega))]
    · simp only [pos, if_neg c]
      rcases m with _ | m
      · rfl
      · have := p 0 (by simp) (by omega)
        simp only [List.getElem_cons_zero] at this
        omega
theorem s_find_loop (l : List S30) (a : Int) (hl : l.length ≤ 1000000000000) (d : Nat) : ∀ (k n : Nat), n ≤ l.length → l.length - n = d → d < k → spec_l3Find.l0 k l a (n : Int) = some (fnd a (n : Int) (l.drop n)) := by
  induction d with
  | zero =>
    intro k n h0 h1 h2
    obtain ⟨k, rfl⟩ : ∃ m, k = m + 1 := ⟨k - 1, by omega⟩
    obtain rfl : n = l.length := by omega
    simp only [spec_l3Find.l0]; rw [if_neg (by omega), List.drop_length]; rfl
  | succ d ih =>
    intro k n h0 h1 h2
    obtain ⟨k, rfl⟩ : ∃ m, k = m + 1 := ⟨k - 1, by omega⟩
    have hn : n < l.length := by omega
    have ih' := ih k (n + 1) (by omega) (by omega) (by omega)
    have w1 : wrap64 ((n : Int) + 1) = ((n + 1 : Nat) : Int) := by rw [w64 (by omega) (by omega)]; omega
    rw [List.drop_eq_getElem_cons hn]
    simp only [spec_l3Find.l0, fnd]
    rw [if_pos (by omega), if_pos (by omega), rdF l n hn, w1, ih']
    by_cases e : l[n].f0 = a
    · rw [if_pos e, if_pos e]
    · rw [if_neg e, if_neg e]; rfl
theorem s_find (l : List S30) (a : Int) (hl : l.length ≤ 1000000000000) (k : Nat) (hk : l.length < k) : spec_l3Find.f k l a = some (fnd a 0 l) := s_find_loop l a hl l.length k 0 (by omega) (by omega) hk
/-! a fact put into a table -/
def insL (l : List S30) (x : S30) : List S30 := l.take (pos x.f0 l) ++ [x] ++ l.drop (pos x.f0 l)
def putL (l : List S30) (x : S30) : List S30 × Bool :=
  if fnd x.f0 0 l < 0 then (insL l x, true)
  else if overB x.f1 x.f2 x.f3 (rd_T30 l (fnd x.f0 0 l)).f1 (rd_T30 l (fnd x.f0 0 l)).f2 (rd_T30 l (fnd x.f0 0 l)).f3 = true then (l.set (fnd x.f0 0 l).toNat x, true) else (l, false)
theorem insL_length (l : List S30) (x : S30) : (insL l x).length = l.length + 1 := by
  have := pos_le x.f0 l
  simp only [insL, List.length_append, List.length_take, List.length_drop, List.length_singleton]
  omega
theorem putL_length (l : List S30) (x : S30) : (putL l x).1.length ≤ l.length + 1 := by
  unfold putL
  split
  · rw [insL_length]; exact Nat.le_refl _
  · split
    · simp only [List.length_set]; omega
    · exact Nat.le_succ _
theorem fnd_lt (l : List S30) (a : Int) : fnd a 0 l < 0 ∨ ∃ i : Nat, ∃ h : i < l.length, fnd a 0 l = i ∧ (l[i]'h).f0 = a := by
  rcases fnd_spec a l 0 with ⟨h, -⟩ | ⟨i, hi, h, h2⟩
  · exact .inl (by omega)
  · exact .inr ⟨i, hi, by omega, h2⟩
theorem s_ins_loop (l : List S30) (x : S30) (hl : l.length ≤ 1000000000000) (d : Nat) : ∀ (k n : Nat), n ≤ pos x.f0 l → pos x.f0 l - n = d → d < k → spec_l3Put.l0 k l (n : Int) x.f0 x.f1 x.f2 x.f3 = some (insL l x, true) := by
  have hp := pos_le x.f0 l
  induction d with
  | zero =>
    intro k n h0 h1 h2
    obtain ⟨k, rfl⟩ : ∃ m, k = m + 1 := ⟨k - 1, by omega⟩
    obtain rfl : n = pos x.f0 l := by omega
    simp only [spec_l3Put.l0]
    by_cases h : pos x.f0 l < l.length
    · have h3 := pos_at x.f0 l h
      rw [if_pos (by omega), if_pos (by omega), rdF l _ h, if_neg h3]
      simp only [Option.bind_some, Int.toNat_natCast, List.nil_append]
      rw [if_pos (by omega), if_pos (by simp only [List.length_nil, List.length_take]; omega), if_pos (by simp only [List.length_take, List.length_singleton]; omega), if_pos (by simp only [List.length_append, List.length_take, List.length_singleton, List.length_drop]; omega)]
      rfl
    · rw [if_neg (by omega)]
      simp only [Option.bind_some, Int.toNat_natCast, List.nil_append]
      rw [if_pos (by omega), if_pos (by omega), if_pos (by simp only [List.length_nil, List.length_take]; omega), if_pos (by simp only [List.length_take, List.length_singleton]; omega), if_pos (by simp only [List.length_append, List.length_take, List.length_singleton, List.length_drop]; omega)]
      rfl
  | succ d ih =>
    intro k n h0 h1 h2
    obtain ⟨k, rfl⟩ : ∃ m, k = m + 1 := ⟨k - 1, by omega⟩
    have hn : n < l.length := by omega
    have ih' := ih k (n + 1) (by omega) (by omega) (by omega)
    have w1 : wrap64 ((n : Int) + 1) = ((n + 1 : Nat) : Int) := by rw [w64 (by omega) (by omega)]; omega
    have h3 : l[n].f0 < x.f0 := pos_lt x.f0 l _ (by
      rw [List.mem_iff_getElem]
      exact ⟨n, by rw [List.length_take]; omega, by rw [List.getElem_take]⟩)
    simp only [spec_l3Put.l0]
    rw [if_pos (by omega), if_pos (by omega), rdF l n hn, if_pos h3, w1]
    exact ih'
theorem s_put (l : List S30) (x : S30) (hl : l.length ≤ 1000000000000) (k : Nat) (hk : l.length < k) : spec_l3Put.f k l x.f0 x.f1 x.f2 x.f3 = some (putL l x) := by
  simp only [spec_l3Put.f, s_find l x.f0 hl k hk, Option.bind_some, putL]
  rcases fnd_lt l x.f0 with h | ⟨i, hi, h, h2⟩
  · rw [if_neg (by omega), if_pos h]
    exact s_ins_loop l x hl (pos x.f0 l) k 0 (by omega) (by omega) (by have := pos_le x.f0 l; omega)
  · rw [h, if_pos (by omega), if_pos (by omega), if_pos (by omega), if_neg (show ¬ ((i : Int) < 0) by omega), s_l3Over, Option.bind_some, List.length_nil, Nat.zero_add, List.nil_append]
    cases overB x.f1 x.f2 x.f3 (rd_T30 l (i : Int)).f1 (rd_T30 l (i : Int)).f2 (rd_T30 l (i : Int)).f3
    · rfl
    · rw [if_pos rfl, if_pos rfl, if_pos (by omega), if_pos (by omega)]
theorem i_put (l : List S30) (x : S30) (hl : l.length ≤ 1000000000000) (hs : tOk l = true) (k : Nat) (hk : l.length < k) (hk8 : 8 ≤ k) : impl_put.f k l x.f0 x.f1 x.f2 x.f3 = some (putL l x) := by
  obtain ⟨m, b, hf, hm, hp, hq, hb1, hb0⟩ := i_find l x.f0 hl hs k hk
  simp only [impl_put.f, impl_Fact_43.f, Option.bind_some, List.length_nil, Nat.zero_add, List.nil_append]
  rw [if_pos (by omega), Option.bind_some, hf]
  simp only [Option.bind_some, putL]
  cases b
  · have hno := hb0 rfl
    have hneg : fnd x.f0 0 l < 0 := by
      rcases fnd_lt l x.f0 with h | ⟨i, hi, h, h2⟩
      · exact h
      · exact absurd h2 (hno i hi)
    have hpe := pos_eq x.f0 l m hm hp hq
    rw [if_neg (by decide), if_pos hneg]
    simp only [impl_Fact_63.f, Option.bind_some, List.nil_append, Int.toNat_natCast]
    rw [if_pos (by omega), if_pos (by omega), if_neg (by simp), if_pos (by simp only [List.length_nil, List.length_take]; omega), if_pos (by simp only [List.length_take, List.length_singleton]; omega), if_pos (by simp only [List.length_append, List.length_take, List.length_singleton, List.length_drop]; omega)]
    by_cases hz : (l.length : Int) = 0
    · obtain rfl : l = [] := List.eq_nil_of_length_eq_zero (by omega)
      rw [if_pos (by rfl)]
      simp [insL, pos]
    · rw [if_neg hz, hpe]
      rfl
  · obtain ⟨hml, he⟩ := hb1 rfl
    have hfe : fnd x.f0 0 l = m := by
      rcases fnd_spec x.f0 l 0 with ⟨-, h4⟩ | ⟨i, hi, h3, h4⟩
      · exact absurd he (h4 _ (List.getElem_mem hml))
      · obtain rfl : i = m := by
          rcases Nat.lt_trichotomy i m with c | c | c
          · have := tab_lt l hs i m hml c; omega
          · exact c
          · have := tab_lt l hs m i hi c; omega
        omega
    rw [if_pos rfl, if_pos (by omega), if_pos (by omega), hfe, if_neg (by omega), rdF l m hml, he, compare_eq _ _ _ _ _ _ _ _ k hk8, Option.bind_some]
    have hc := cmpF_pos x.f0 x.f1 x.f2 x.f3 l[m].f1 l[m].f2 l[m].f3
    cases ho : overB x.f1 x.f2 x.f3 l[m].f1 l[m].f2 l[m].f3
    · rw [ho] at hc
      rw [if_neg (of_decide_eq_false hc), if_neg (by decide)]
    · rw [ho] at hc
      rw [if_pos (of_decide_eq_true hc), if_pos rfl]
/-! marks in facts -/
def mkF (a : Int) : S30 := ⟨a, a + 1, a + 2, (Int.tmod (a + 3) 3 == 0)⟩
def markL (a : Int) : List S30 → List S30
  | [] => []
  | _ :: xs => mkF a :: markL (a + 4) xs
theorem markL_length (a : Int) (l : List S30) : (markL a l).length = l.length := by
  induction l generalizing a with
  | nil => rfl
  | cons x xs ih => simp only [markL, List.length_cons, ih]
theorem rd_setF (l : List S30) (n : Nat) (h : n < l.length) (v : S30) : rd_T30 (l.set n v) (n : Int) = v := by
  rw [rdF _ n (by rw [List.length_set]; exact h), List.getElem_set_self]
theorem markF_loop (d : Nat) : ∀ (k n : Nat) (l : List S30) (a : Int), l.length ≤ 1000000000000 → 0 ≤ a → a ≤ 1000000000000 + 4 * n → n ≤ l.length → l.length - n = d → d < k → laws_markFactS.l0 k l a (n : Int) = some (a + 4 * d, l.take n ++ markL a (l.drop n)) := by
  induction d with
  | zero =>
    intro k n l a hl ha ha' h0 h1 h2
    obtain ⟨k, rfl⟩ : ∃ m, k = m + 1 := ⟨k - 1, by omega⟩
    obtain rfl : n = l.length := by omega
    simp only [laws_markFactS.l0]
    rw [if_neg (by omega), List.take_length, List.drop_length]
    simp only [markL, List.append_nil]
    congr 2; omega
  | succ d ih =>
    intro k n l a hl ha ha' h0 h1 h2
    obtain ⟨k, rfl⟩ : ∃ m, k = m + 1 := ⟨k - 1, by omega⟩
    have hn : n < l.length := by omega
    have w1 : wrap64 ((n : Int) + 1) = ((n + 1 : Nat) : Int) := by rw [w64 (by omega) (by omega)]; omega
    have w2 : wrap64 (a + 1) = a + 1 := w64 (by omega) (by omega)
    have w3 : wrap64 (a + 1 + 1) = a + 2 := by rw [w64 (by omega) (by omega)]; omega
    have w4 : wrap64 (a + 2 + 1) = a + 3 := by rw [w64 (by omega) (by omega)]; omega
    have w5 : wrap64 (a + 3 + 1) = a + 4 := by rw [w64 (by omega) (by omega)]; omega
    simp only [laws_markFactS.l0, Option.bind_some, w2, w3, w4, w5, w1, Int.toNat_natCast]
    rw [if_pos (by omega), if_pos (by omega)]
    simp only [rd_setF l n hn, List.set_set]
    have ih' := ih k (n + 1) (l.set n (mkF a)) (a + 4) (by rw [List.length_set]; omega) (by omega) (by omega) (by rw [List.length_set]; omega) (by rw [List.length_set]; omega) (by omega)
    refine ih'.trans ?_
    have e1 : (l.set n (mkF a)).take (n + 1) = l.take n ++ [mkF a] := by
      rw [List.take_succ_eq_append_getElem (by rw [List.length_set]; exact hn), List.getElem_set_self, List.take_set_of_le (Nat.le_refl n)]
    have e2 : (l.set n (mkF a)).drop (n + 1) = l.drop (n + 1) := List.drop_set_of_lt (Nat.lt_succ_self n)
    rw [e1, e2, List.drop_eq_getElem_cons hn]
    simp only [markL, List.append_assoc, List.singleton_append]
    congr 2; omega
theorem markF (l : List S30) (hl : l.length ≤ 1000000000000) (k : Nat) (hk : l.length < k) : laws_markFactS.f k l 1 = some (1 + 4 * (l.length : Int), markL 1 l) := by
  have := markF_loop l.length k 0 l 1 hl (by omega) (by omega) (by omega) (by omega) hk
  rw [List.take_zero, List.nil_append, List.drop_zero] at this
  exact this
theorem heldF_loop (d : Nat) : ∀ (k n : Nat) (l : List S30) (a : Int), l.length ≤ 1000000000000 → 0 ≤ a → a ≤ 1000000000000 + 4 * n → n ≤ l.length → l.length - n = d → d < k → (∃ q, l.drop n = markL a q) → laws_heldFactS.l0 k l a (n : Int) = some (a + 4 * d) := by
  induction d with
  | zero =>
    intro k n l a hl ha ha' h0 h1 h2 hq
    obtain ⟨k, rfl⟩ : ∃ m, k = m + 1 := ⟨k - 1, by omega⟩
    simp only [laws_heldFactS.l0]
    rw [if_neg (by omega)]
    congr 1; omega
  | succ d ih =>
    intro k n l a hl ha ha' h0 h1 h2 hq
    obtain ⟨k, rfl⟩ : ∃ m, k = m + 1 := ⟨k - 1, by omega⟩
    have hn : n < l.length := by omega
    have w1 : wrap64 ((n : Int) + 1) = ((n + 1 : Nat) : Int) := by rw [w64 (by omega) (by omega)]; omega
    have w2 : wrap64 (a + 1) = a + 1 := w64 (by omega) (by omega)
    have w3 : wrap64 (a + 1 + 1) = a + 2 := by rw [w64 (by omega) (by omega)]; omega
    have w4 : wrap64 (a + 2 + 1) = a + 3 := by rw [w64 (by omega) (by omega)]; omega
    have w5 : wrap64 (a + 3 + 1) = a + 4 := by rw [w64 (by omega) (by omega)]; omega
    obtain ⟨q, hq⟩ := hq
    rw [List.drop_eq_getElem_cons hn] at hq
    cases q with
    | nil => simp [markL] at hq; omega
    | cons y ys =>
      simp only [markL, List.cons.injEq] at hq
      have e0 : rd_T30 l (n : Int) = mkF a := (rdF l n hn).trans hq.1
      simp only [laws_heldFactS.l0, w2, w3, w4, w5, w1, e0, mkF]
      rw [if_pos (by omega), if_pos (by omega), if_pos trivial, if_pos trivial, if_pos trivial, if_neg (by simp)]
      refine (ih k (n + 1) l (a + 4) hl (by omega) (by omega) (by omega) (by omega) (by omega) ⟨ys, hq.2⟩).trans ?_
      congr 1; omega
theorem heldF (l : List S30) (hl : l.length ≤ 1000000000000) (k : Nat) (hk : l.length < k) : laws_heldFactS.f k (markL 1 l) 1 = some (1 + 4 * (l.length : Int)) := by
  have := heldF_loop l.length k 0 (markL 1 l) 1 (by rw [markL_length]; exact hl) (by omega) (by omega) (by omega) (by rw [markL_length]; omega) hk ⟨l, by simp⟩
  exact this
/-! tables joined -/
theorem insL_ok (l : List S30) (x : S30) (h : tOk l = true) (hx : fok x = true) (hn : ∀ y ∈ l, y.f0 ≠ x.f0) : tOk (insL l x) = true := by
  obtain ⟨h1, h2⟩ := (tOk_iff l).1 h
  have hd : ∀ y ∈ l.drop (pos x.f0 l), x.f0 < y.f0 := by
    intro y hy
    obtain ⟨j, hj, rfl⟩ := List.mem_iff_getElem.1 hy
    rw [List.length_drop] at hj
    rw [List.getElem_drop]
    have hp : pos x.f0 l < l.length := by omega
    have h3 := pos_at x.f0 l hp
    have h4 := hn _ (List.getElem_mem hp)
    rcases Nat.eq_zero_or_pos j with rfl | hj0
    · simp only [Nat.add_zero]; omega
    · have := tab_lt l h (pos x.f0 l) (pos x.f0 l + j) (by omega) (by omega)
      omega
  have ht := pos_lt x.f0 l
  refine (tOk_iff _).2 ⟨fun y hy => ?_, ?_⟩
  · simp only [insL, List.mem_append, List.mem_singleton] at hy
    rcases hy with (hy | rfl) | hy
    · exact h1 y (List.mem_of_mem_take hy)
    · exact hx
    · exact h1 y (List.mem_of_mem_drop hy)
  · unfold insL
    rw [List.append_assoc]
    refine List.pairwise_append.2 ⟨h2.sublist (List.take_sublist _ _), List.pairwise_cons.2 ⟨fun y hy => hd y hy, h2.sublist (List.drop_sublist _ _)⟩, fun y hy z hz => ?_⟩
    have e1 := ht y hy
    rcases List.mem_cons.1 hz with rfl | hz
    · exact e1
    · have := hd z hz; omega
theorem setL_ok (l : List S30) (x : S30) (i : Nat) (hi : i < l.length) (h : tOk l = true) (hx : fok x = true) (he : l[i].f0 = x.f0) : tOk (l.set i x) = true := by
  obtain ⟨h1, h2⟩ := (tOk_iff l).1 h
  refine (tOk_iff _).2 ⟨fun y hy => ?_, ?_⟩
  · rcases List.mem_or_eq_of_mem_set hy with hy | rfl
    · exact h1 y hy
    · exact hx
  · have e : (l.set i x).map (·.f0) = l.map (·.f0) := by
      rw [List.map_set, ← he]
      refine List.ext_getElem (by rw [List.length_set]) (fun j p q => ?_)
      rw [List.getElem_set]
      split
      · rename_i c; subst c; rw [List.getElem_map]
      · rfl
    have p : (l.map (·.f0)).Pairwise (· < ·) := List.pairwise_map.2 h2
    rw [← e] at p
    exact List.pairwise_map.1 p
theorem putL_ok (l : List S30) (x : S30) (h : tOk l = true) (hx : fok x = true) : tOk (putL l x).1 = true := by
  unfold putL
  rcases fnd_spec x.f0 l 0 with ⟨h1, h2⟩ | ⟨i, hi, h1, h2⟩
  · rw [if_pos (by omega)]
    exact insL_ok l x h hx h2
  · rw [if_neg (by omega), h1, Int.zero_add, Int.toNat_natCast]
    cases overB x.f1 x.f2 x.f3 (rd_T30 l (i : Int)).f1 (rd_T30 l (i : Int)).f2 (rd_T30 l (i : Int)).f3
    · exact h
    · exact setL_ok l x i hi h hx h2
def joinL (x : List S30) : List S30 → List S30
  | [] => x
  | y :: ys => joinL (putL x y).1 ys
theorem joinL_length (b : List S30) : ∀ x : List S30, (joinL x b).length ≤ x.length + b.length := by
  induction b with
  | nil => intro x; exact Nat.le_refl _
  | cons y ys ih =>
    intro x
    have := ih (putL x y).1
    have h2 := putL_length x y
    simp only [joinL, List.length_cons]
    omega
theorem s_join_loop (b : List S30) (hb : b.length ≤ 100000000) (d : Nat) : ∀ (k n : Nat) (x : List S30), n ≤ b.length → b.length - n = d → x.length + d ≤ 1000000000 → x.length + 2 * d < k → spec_TableJoin.l0 k b x (n : Int) = some (joinL x (b.drop n)) := by
  induction d with
  | zero =>
    intro k n x h0 h1 h2 h3
    obtain ⟨k, rfl⟩ : ∃ m, k = m + 1 := ⟨k - 1, by omega⟩
    obtain rfl : n = b.length := by omega
    simp only [spec_TableJoin.l0]; rw [if_neg (by omega), List.drop_length]; rfl
  | succ d ih =>
    intro k n x h0 h1 h2 h3
    obtain ⟨k, rfl⟩ : ∃ m, k = m + 1 := ⟨k - 1, by omega⟩
    have hn : n < b.length := by omega
    have w1 : wrap64 ((n : Int) + 1) = ((n + 1 : Nat) : Int) := by rw [w64 (by omega) (by omega)]; omega
    rw [List.drop_eq_getElem_cons hn]
    simp only [spec_TableJoin.l0]
    rw [if_pos (by omega), if_pos (by omega), rdF b n hn, w1, s_put x b[n] (by omega) k (by omega), Option.bind_some]
    have := putL_length x b[n]
    exact ih k (n + 1) _ (by omega) (by omega) (by omega) (by omega)
theorem i_join_loop (b : List S30) (hb : b.length ≤ 100000000) (hbo : ∀ y ∈ b, fok y = true) (d : Nat) : ∀ (k n : Nat) (x : List S30), n ≤ b.length → b.length - n = d → x.length + d ≤ 1000000000 → x.length + 2 * d + 8 < k → tOk x = true → impl_TableJoin.l0 k x b (b.length : Int) (n : Int) = some (joinL x (b.drop n)) := by
  induction d with
  | zero =>
    intro k n x h0 h1 h2 h3 h4
    obtain ⟨k, rfl⟩ : ∃ m, k = m + 1 := ⟨k - 1, by omega⟩
    obtain rfl : n = b.length := by omega
    simp only [impl_TableJoin.l0]; rw [if_neg (by omega), List.drop_length]; rfl
  | succ d ih =>
    intro k n x h0 h1 h2 h3 h4
    obtain ⟨k, rfl⟩ : ∃ m, k = m + 1 := ⟨k - 1, by omega⟩
    have hn : n < b.length := by omega
    have w1 : wrap64 ((n : Int) + 1) = ((n + 1 : Nat) : Int) := by rw [w64 (by omega) (by omega)]; omega
    rw [List.drop_eq_getElem_cons hn]
    simp only [impl_TableJoin.l0]
    rw [if_pos (by omega), if_pos (by omega), if_pos (by omega), rdF b n hn, w1, i_put x b[n] (by omega) h4 k (by omega) (by omega), Option.bind_some]
    have := putL_length x b[n]
    exact ih k (n + 1) _ (by omega) (by omega) (by omega) (by omega) (putL_ok x b[n] h4 (hbo _ (List.getElem_mem hn)))
def tjoin (a b : List S30) : List S30 := if tOk a = true then (if tOk b = true then joinL a b else []) else []
theorem tjoin_length (a b : List S30) : (tjoin a b).length ≤ a.length + b.length := by
  unfold tjoin
  split
  · split
    · exact joinL_length b a
    · simp
  · simp
theorem s_join (a b : List S30) (ha : a.length ≤ 100000000) (hb : b.length ≤ 100000000) (k : Nat) (hk : a.length + 2 * b.length + 9 < k) : spec_TableJoin.f k a b = some (tjoin a b) := by
  simp only [spec_TableJoin.f, s_tab a (by omega) k (by omega), s_tab b (by omega) k (by omega), Option.bind_some, tjoin]
  obtain ⟨k, rfl⟩ : ∃ m, k = m + 1 := ⟨k - 1, by omega⟩
  by_cases h : tOk a = true
  · rw [if_pos h, if_pos h]
    by_cases h2 : tOk b = true
    · simp only [h2, Bool.not_true, spec_TableJoin.j0, Bool.false_eq_true, if_false, if_true, Option.bind_some, List.length_nil, Nat.zero_add, List.nil_append]
      rw [if_pos (by omega)]
      exact s_join_loop b hb b.length k 0 a (by omega) (by omega) (by omega) (by omega)
    · have h3 : tOk b = false := by simpa using h2
      simp only [h3, Bool.not_false, spec_TableJoin.j0, Bool.false_eq_true, if_true, if_false]
  · rw [if_neg h, if_neg h]
    simp only [spec_TableJoin.j0, if_true]
theorem i_join (a b : List S30) (ha : a.length ≤ 100000000) (hb : b.length ≤ 100000000) (k : Nat) (hk : a.length + 2 * b.length + 9 < k) : impl_TableJoin.f k a b = some (tjoin a b) := by
  simp only [impl_TableJoin.f, i_tab a (by omega) k (by omega), i_tab b (by omega) k (by omega), Option.bind_some, tjoin]
  obtain ⟨k, rfl⟩ : ∃ m, k = m + 1 := ⟨k - 1, by omega⟩
  by_cases h : tOk a = true
  · rw [if_pos h, if_pos h]
    by_cases h2 : tOk b = true
    · simp only [h2, Bool.not_true, impl_TableJoin.j0, Bool.false_eq_true, if_false, if_true, impl_Fact_43.f, Option.bind_some, List.length_nil, Nat.zero_add, List.nil_append]
      rw [if_pos (by omega), Option.bind_some]
      exact i_join_loop b hb ((tOk_iff b).1 h2).1 b.length k 0 a (by omega) (by omega) (by omega) (by omega) h
    · have h3 : tOk b = false := by simpa using h2
      simp only [h3, Bool.not_false, impl_TableJoin.j0, Bool.false_eq_true, if_true, if_false]
  · rw [if_neg h, if_neg h]
    simp only [impl_TableJoin.j0, if_true]
theorem markFa (l : List S30) (a : Int) (ha : 0 ≤ a) (ha' : a ≤ 1000000000000) (hl : l.length ≤ 1000000000000) (k : Nat) (hk : l.length < k) : laws_markFactS.f k l a = some (a + 4 * (l.length : Int), markL a l) := by
  have := markF_loop l.length k 0 l a hl ha (by omega) (by omega) (by omega) hk
  rw [List.take_zero, List.nil_append, List.drop_zero] at this
  exact this
theorem szSa (l : List S24) (hl : l.length ≤ maxLen) (m : Int) (h0 : 0 ≤ m) (h1 : m ≤ 1048576) : ∃ q, laws_szFactS.f l m = some q ∧ (0 ≤ q → l.length ≤ 1048576 ∧ q ≤ 1048576) := by
  unfold maxLen at hl
  have e : wrap64 (m - (l.length : Int)) = m - (l.length : Int) := w64 (by omega) (by omega)
  simp only [laws_szFactS.f, e]
  by_cases h : m - (l.length : Int) < 0
  · rw [if_pos h]; exact ⟨_, rfl, by omega⟩
  · rw [if_neg h]; exact ⟨_, rfl, by omega⟩
theorem FnExactTableJoin : laws_FnExactTableJoin.Pure := by
  intro l l2 hl _ hl2 _
  obtain ⟨m, hm, hs⟩ := szSa l hl 1048576 (by omega) (by omega)
  refine ⟨(l.length + 2 * l2.length + 20) + 1, ?_⟩
  simp only [laws_FnExactTableJoin.f, hm, Option.bind_some]
  by_cases h0 : m < 0
  · rw [if_pos h0]
  · rw [if_neg h0]
    obtain ⟨hl', hm'⟩ := hs (by omega)
    obtain ⟨m2, hm2, hs2⟩ := szSa l2 hl2 m (by omega) hm'
    simp only [hm2, Option.bind_some]
    by_cases h02 : m2 < 0
    · rw [if_pos h02]
    · rw [if_neg h02]
      obtain ⟨hl2', -⟩ := hs2 (by omega)
      have hlen : (l.map conv).length = l.length := List.length_map ..
      have hlen2 : (l2.map conv).length = l2.length := List.length_map ..
      have t1 := fun k (h : l.length < k) => toS l hl' k h
      have t2 := fun k (h : l2.length < k) => toS l2 hl2' k h
      generalize hL : l.map conv = L at t1 hlen
      generalize hM : l2.map conv = M at t2 hlen2
      have hT := tjoin_length L M
      have hs1 := fun k (h : L.length + 2 * M.length + 9 < k) => s_join L M (by omega) (by omega) k h
      have hi1 := fun k (h : L.length + 2 * M.length + 9 < k) => i_join L M (by omega) (by omega) k h
      generalize hW : tjoin L M = W at hT hs1 hi1
      generalize hk : l.length + 2 * l2.length + 20 = k
      simp only [t1 (k + 1) (by omega), t2 (k + 1) (by omega), hs1 (k + 1) (by omega), hi1 (k + 1) (by omega), eqS W (by omega) (k + 1) (by omega), eqS L (by omega) (k + 1) (by omega), eqS M (by omega) (k + 1) (by omega), markF L (by omega) (k + 1) (by omega), markFa M (1 + 4 * (L.length : Int)) (by omega) (by omega) (by omega) (k + 1) (by omega), Option.bind_some, if_true]
      rw [if_neg (by omega)]
      simp only [laws_FnExactTableJoin.j0, Bool.not_true, Bool.false_eq_true, if_false, markF W (by omega) k (by omega), heldF W (by omega) k (by omega), t1 k (by omega), t2 k (by omega), hi1 k (by omega), eqS W (by omega) k (by omega), Option.bind_some, if_true]
      rw [if_neg (by omega), if_neg (by omega)]
end Go.Proofs.Ytjaihhgkcdnhnaa.Pure
