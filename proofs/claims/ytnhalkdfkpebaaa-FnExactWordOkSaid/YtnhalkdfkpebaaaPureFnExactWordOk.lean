/- The program's WordOk answers as the reference's, for every word, and leaves the word as it is. Conditions: none beyond the row's reach. -/
import Derived.Test.YtnhalkdfkpebaaaPFnExactWordOkx
set_option linter.unusedVariables false
set_option linter.unusedSimpArgs false
namespace Go.Proofs.Ytnhalkdfkpebaaa.Pure
open Go.RowKit Go.Proofs.Ytnhalkdfkpebaaa.PFnExactWordOk Go.Proofs.YtnhalkdfkpebaaaW.PrintWords Go.Proofs.YtnhalkdfkpebaaaW.PrintLast Go.Proofs.YtnhalkdfkpebaaaW.PrintMore
theorem w64 {n : Int} (h : -9223372036854775808 ≤ n) (h' : n ≤ 9223372036854775807) : wrap64 n = n := by unfold wrap64; omega
theorem lt_ge (a b : Int) : a < b ∨ b ≤ a := by omega
/-! ranges -/
theorem s_in (a l h : Int) : spec_l1In.f a l h = some (decide (l ≤ a) && decide (a ≤ h)) := by
  simp only [spec_l1In.f]
  by_cases h1 : a ≥ l
  · rw [if_pos h1, decide_eq_true (show l ≤ a from h1)]; rfl
  · rw [if_neg h1, decide_eq_false (show ¬ l ≤ a from h1)]; rfl
theorem i_in (a l h : Int) : impl_in.f a l h = some (decide (l ≤ a) && decide (a ≤ h)) := by
  simp only [impl_in.f]
  by_cases h1 : a ≥ l
  · rw [if_pos h1, decide_eq_true (show l ≤ a from h1)]; rfl
  · rw [if_neg h1, decide_eq_false (show ¬ l ≤ a from h1)]; rfl
theorem if_some {α : Type} (c : Bool) (x : α) (y z : Bool) : (if c = true then some y else some z : Option Bool) = some (if c = true then y else z) := by cases c <;> rfl
def inB (a l h : Int) : Bool := decide (l ≤ a) && decide (a ≤ h)
def factOk (n i s : Int) : Bool := inB n 0 7 && (inB i 0 999 && inB s 1 4)
theorem s_factOk (a b c : Int) (d : Bool) : spec_FactOk.f a b c d = some (factOk a b c) := by
  simp only [spec_FactOk.f, s_in, Option.bind_some, factOk, inB]
  cases (decide (0 ≤ a) && decide (a ≤ 7)) <;> cases (decide (0 ≤ b) && decide (b ≤ 999)) <;> simp
theorem i_factOk (a b c : Int) (d : Bool) : impl_FactOk.f a b c d = some (factOk a b c) := by
  simp only [impl_FactOk.f, impl_isNode.f, i_in, Option.bind_some, factOk, inB]
  cases (decide (0 ≤ a) && decide (a ≤ 7)) <;> cases (decide (0 ≤ b) && decide (b ≤ 999)) <;> simp
def coordOk (x y h e : Int) : Bool := (decide (-100000 ≤ x) && decide (x ≤ 100000)) && ((decide (-100000 ≤ y) && decide (y ≤ 100000)) && ((decide (0 ≤ h) && decide (h ≤ 100000)) && (decide (1 ≤ e) && decide (e ≤ 1500))))
theorem s_coordOk (x y h e : Int) : spec_CoordOk.f x y h e = some (coordOk x y h e) := by
  simp only [spec_CoordOk.f, s_in, Option.bind_some, coordOk]
  cases (decide (-100000 ≤ x) && decide (x ≤ 100000)) <;> cases (decide (-100000 ≤ y) && decide (y ≤ 100000)) <;> cases (decide (0 ≤ h) && decide (h ≤ 100000)) <;> simp
theorem i_coordOk (x y h e : Int) : impl_CoordOk.f x y h e = some (coordOk x y h e) := by
  simp only [impl_CoordOk.f, i_in, Option.bind_some, coordOk]
  cases (decide (-100000 ≤ x) && decide (x ≤ 100000)) <;> cases (decide (-100000 ≤ y) && decide (y ≤ 100000)) <;> cases (decide (0 ≤ h) && decide (h ≤ 100000)) <;> simp
/-! tables: S32 a fact of the program's, S30 the statement's own -/
def fok (x : S32) : Bool := factOk x.f0 x.f1 x.f2
def tabB : Int → List S32 → Bool
  | _, [] => true
  | p, x :: xs => fok x && (decide (p < x.f0) && tabB x.f0 xs)
def prevOf (l : List S32) (n : Nat) : Int := if n = 0 then -1 else (rd_T32 l ((n - 1 : Nat) : Int)).f0
theorem fok_node {x : S32} (h : fok x = true) : 0 ≤ x.f0 ∧ x.f0 ≤ 7 ∧ 0 ≤ x.f1 ∧ x.f1 ≤ 999 ∧ 1 ≤ x.f2 ∧ x.f2 ≤ 4 := by
  simp only [fok, factOk, inB, Bool.and_eq_true, decide_eq_true_eq] at h
  omega
theorem rdF (l : List S32) (n : Nat) (h : n < l.length) : rd_T32 l (n : Int) = l[n] := by
  unfold rd_T32
  rw [Int.toNat_natCast, List.getD_eq_getElem?_getD, List.getElem?_eq_getElem h]; rfl
theorem tabB_step (l : List S32) (n : Nat) (h : n < l.length) : tabB (prevOf l n) (l.drop n) = (fok l[n] && (decide (prevOf l n < l[n].f0) && tabB (prevOf l (n + 1)) (l.drop (n + 1)))) := by
  rw [List.drop_eq_getElem_cons h]
  have e : prevOf l (n + 1) = l[n].f0 := by unfold prevOf; rw [if_neg (by omega), Nat.add_sub_cancel, rdF l n h]
  rw [e]; rfl
theorem s_tab_loop (l : List S32) (hl : l.length ≤ 1000000000000) (d : Nat) : ∀ (k n : Nat), n ≤ l.length → l.length - n = d → d < k → spec_TableOk.l0 k l (n : Int) = some (tabB (prevOf l n) (l.drop n)) := by
  induction d with
  | zero =>
    intro k n h0 h1 h2
    obtain ⟨k, rfl⟩ : ∃ m, k = m + 1 := ⟨k - 1, by omega⟩
    obtain rfl : n = l.length := by omega
    simp only [spec_TableOk.l0]; rw [if_neg (by omega), List.drop_length]; rfl
  | succ d ih =>
    intro k n h0 h1 h2
    obtain ⟨k, rfl⟩ : ∃ m, k = m + 1 := ⟨k - 1, by omega⟩
    have hn : n < l.length := by omega
    have ih' := ih k (n + 1) (by omega) (by omega) (by omega)
    have w1 : wrap64 ((n : Int) + 1) = ((n + 1 : Nat) : Int) := by rw [w64 (by omega) (by omega)]; omega
    rw [tabB_step l n hn]
    simp only [spec_TableOk.l0]
    rw [if_pos (by omega), if_pos (by omega), s_factOk, rdF l n hn, w1, ih']
    simp only [Option.bind_some]
    show (if fok l[n] = true then _ else _) = _
    cases hf : fok l[n]
    · rfl
    · obtain ⟨f0, -⟩ := fok_node hf
      rw [if_pos rfl, Bool.true_and]
      by_cases hz : n = 0
      · subst hz
        rw [if_neg (by omega), decide_eq_true (by unfold prevOf; rw [if_pos rfl]; omega), Bool.true_and]
      · have w2 : wrap64 ((n : Int) - 1) = ((n - 1 : Nat) : Int) := by rw [w64 (by omega) (by omega)]; omega
        have hp : prevOf l n = l[n - 1].f0 := by unfold prevOf; rw [if_neg hz, rdF l (n - 1) (by omega)]
        rw [if_pos (by omega), w2, if_pos (by omega), if_pos (by omega), rdF l (n - 1) (by omega), hp]
        by_cases hlt : l[n - 1].f0 < l[n].f0
        · rw [if_neg (by omega), decide_eq_true hlt, Bool.true_and]
        · rw [if_pos (by omega), decide_eq_false hlt, Bool.false_and]
theorem i_tab_loop (l : List S32) (hl : l.length ≤ 1000000000000) (d : Nat) : ∀ (k n : Nat), n ≤ l.length → l.length - n = d → d < k → impl_TableOk.l0 k l l (l.length : Int) (n : Int) = some (tabB (prevOf l n) (l.drop n)) := by
  induction d with
  | zero =>
    intro k n h0 h1 h2
    obtain ⟨k, rfl⟩ : ∃ m, k = m + 1 := ⟨k - 1, by omega⟩
    obtain rfl : n = l.length := by omega
    simp only [impl_TableOk.l0]; rw [if_neg (by omega), List.drop_length]; rfl
  | succ d ih =>
    intro k n h0 h1 h2
    obtain ⟨k, rfl⟩ : ∃ m, k = m + 1 := ⟨k - 1, by omega⟩
    have hn : n < l.length := by omega
    have ih' := ih k (n + 1) (by omega) (by omega) (by omega)
    have w1 : wrap64 ((n : Int) + 1) = ((n + 1 : Nat) : Int) := by rw [w64 (by omega) (by omega)]; omega
    rw [tabB_step l n hn]
    simp only [impl_TableOk.l0]
    rw [if_pos (by omega), if_pos (by omega), if_pos (by omega), i_factOk, rdF l n hn, w1, ih']
    simp only [Option.bind_some]
    show (if fok l[n] = true then _ else _) = _
    cases hf : fok l[n]
    · rfl
    · obtain ⟨f0, -⟩ := fok_node hf
      rw [if_pos rfl, Bool.true_and]
      by_cases hz : n = 0
      · subst hz
        rw [if_neg (by omega), decide_eq_true (by unfold prevOf; rw [if_pos rfl]; omega), Bool.true_and]
      · have w2 : wrap64 ((n : Int) - 1) = ((n - 1 : Nat) : Int) := by rw [w64 (by omega) (by omega)]; omega
        have hp : prevOf l n = l[n - 1].f0 := by unfold prevOf; rw [if_neg hz, rdF l (n - 1) (by omega)]
        rw [if_pos (by omega), w2, if_pos (by omega), if_pos (by omega), rdF l (n - 1) (by omega), hp]
        by_cases hlt : l[n - 1].f0 < l[n].f0
        · rw [if_neg (by omega), decide_eq_true hlt, Bool.true_and]
        · rw [if_pos (by omega), decide_eq_false hlt, Bool.false_and]
def tOk (l : List S32) : Bool := tabB (-1) l
theorem s_tab (l : List S32) (hl : l.length ≤ 1000000000000) (k : Nat) (hk : l.length < k) : spec_TableOk.f k l = some (tOk l) := s_tab_loop l hl l.length k 0 (by omega) (by omega) hk
theorem i_tab (l : List S32) (hl : l.length ≤ 1000000000000) (k : Nat) (hk : l.length < k) : impl_TableOk.f k l = some (tOk l) := i_tab_loop l hl l.length k 0 (by omega) (by omega) hk
def conv (x : S30) : S32 := ⟨x.f0, x.f1, x.f2, x.f3⟩
theorem rdL (l : List S30) (n : Nat) (h : n < l.length) : rd_T30 l (n : Int) = l[n] := by
  unfold rd_T30
  rw [Int.toNat_natCast, List.getD_eq_getElem?_getD, List.getElem?_eq_getElem h]; rfl
theorem toS_loop (l : List S30) (hl : l.length ≤ 1000000000000) (d : Nat) : ∀ (k n : Nat), n ≤ l.length → l.length - n = d → d < k → laws_toFactS.l0 k l ((l.take n).map conv ++ List.replicate (l.length - n) z32) (n : Int) = some (l.map conv) := by
  induction d with
  | zero =>
    intro k n h0 h1 h2
    obtain ⟨k, rfl⟩ : ∃ m, k = m + 1 := ⟨k - 1, by omega⟩
    obtain rfl : n = l.length := by omega
    simp only [laws_toFactS.l0]; rw [if_neg (by omega), List.take_length, Nat.sub_self]; simp
  | succ d ih =>
    intro k n h0 h1 h2
    obtain ⟨k, rfl⟩ : ∃ m, k = m + 1 := ⟨k - 1, by omega⟩
    have hn : n < l.length := by omega
    have ih' := ih k (n + 1) (by omega) (by omega) (by omega)
    have w1 : wrap64 ((n : Int) + 1) = ((n + 1 : Nat) : Int) := by rw [w64 (by omega) (by omega)]; omega
    have hlen : ((l.take n).map conv).length = n := by rw [List.length_map, List.length_take]; omega
    simp only [laws_toFactS.l0]
    rw [if_pos (by omega), if_pos (by omega)]
    simp only [laws_toFact.f, Option.bind_some]
    rw [if_pos (by rw [List.length_append, hlen, List.length_replicate]; omega), w1, rdL l n hn, Int.toNat_natCast, List.set_append_right (h := by omega), hlen, Nat.sub_self]
    have e : List.replicate (l.length - n) z32 = z32 :: List.replicate (l.length - (n + 1)) z32 := by rw [show l.length - n = (l.length - (n + 1)) + 1 by omega, List.replicate_succ]
    rw [e, List.set_cons_zero]
    have e2 : (l.take (n + 1)).map conv = (l.take n).map conv ++ [conv l[n]] := by rw [List.take_succ_eq_append_getElem hn, List.map_append]; rfl
    rw [e2, List.append_assoc] at ih'
    exact ih'
theorem toS (l : List S30) (hl : l.length ≤ 1048576) (k : Nat) (hk : l.length < k) : laws_toFactS.f k l = some (l.map conv) := by
  simp only [laws_toFactS.f, Int.toNat_natCast]
  rw [if_pos (by omega), if_pos (by omega)]
  have := toS_loop l (by omega) l.length k 0 (by omega) (by omega) hk
  simpa using this
theorem eqFact_self (x : S32) : laws_eqFact.f x.f0 x.f1 x.f2 x.f3 x.f0 x.f1 x.f2 x.f3 = some true := by
  simp only [laws_eqFact.f, if_true, bne_self_eq_false, Bool.false_eq_true, if_false]
theorem eqS_loop (l : List S32) (hl : l.length ≤ 1000000000000) (d : Nat) : ∀ (k n : Nat), n ≤ l.length → l.length - n = d → d < k → laws_eqFactS.l0 k l l (n : Int) = some true := by
  induction d with
  | zero =>
    intro k n h0 h1 h2
    obtain ⟨k, rfl⟩ : ∃ m, k = m + 1 := ⟨k - 1, by omega⟩
    simp only [laws_eqFactS.l0]; rw [if_neg (by omega)]
  | succ d ih =>
    intro k n h0 h1 h2
    obtain ⟨k, rfl⟩ : ∃ m, k = m + 1 := ⟨k - 1, by omega⟩
    have ih' := ih k (n + 1) (by omega) (by omega) (by omega)
    have w1 : wrap64 ((n : Int) + 1) = ((n + 1 : Nat) : Int) := by rw [w64 (by omega) (by omega)]; omega
    simp only [laws_eqFactS.l0]
    rw [if_pos (by omega), if_pos (by omega), if_pos (by omega), eqFact_self, w1]
    simp only [Option.bind_some, if_true]
    exact ih'
theorem eqS (l : List S32) (hl : l.length ≤ 1000000000000) (k : Nat) (hk : l.length < k) : laws_eqFactS.f k l l = some true := by
  simp only [laws_eqFactS.f, if_true]
  exact eqS_loop l hl l.length k 0 (by omega) (by omega) hk
theorem szS (l : List S30) (hl : l.length ≤ maxLen) : ∃ m, laws_szFactS.f l 1048576 = some m ∧ (0 ≤ m → l.length ≤ 1048576) := by
  unfold maxLen at hl
  have e : wrap64 (1048576 - (l.length : Int)) = 1048576 - (l.length : Int) := w64 (by omega) (by omega)
  simp only [laws_szFactS.f, e]
  by_cases h : 1048576 - (l.length : Int) < 0
  · rw [if_pos h]; exact ⟨_, rfl, by omega⟩
  · rw [if_neg h]; exact ⟨_, rfl, by omega⟩
def siteAll (s : Int) : List S32 → Bool
  | [] => true
  | x :: xs => (wrap64 (Int.tdiv x.f0 4) == s) && siteAll s xs
theorem s_site_loop (l : List S32) (s : Int) (hl : l.length ≤ 1000000000000) (d : Nat) : ∀ (k n : Nat), n ≤ l.length → l.length - n = d → d < k → spec_l4Site.l0 k l s (n : Int) = some (siteAll s (l.drop n)) := by
  induction d with
  | zero =>
    intro k n h0 h1 h2
    obtain ⟨k, rfl⟩ : ∃ m, k = m + 1 := ⟨k - 1, by omega⟩
    obtain rfl : n = l.length := by omega
    simp only [spec_l4Site.l0]; rw [if_neg (by omega), List.drop_length]; rfl
  | succ d ih =>
    intro k n h0 h1 h2
    obtain ⟨k, rfl⟩ : ∃ m, k = m + 1 := ⟨k - 1, by omega⟩
    have hn : n < l.length := by omega
    have ih' := ih k (n + 1) (by omega) (by omega) (by omega)
    have w1 : wrap64 ((n : Int) + 1) = ((n + 1 : Nat) : Int) := by rw [w64 (by omega) (by omega)]; omega
    rw [List.drop_eq_getElem_cons hn]
    simp only [spec_l4Site.l0, siteAll]
    rw [if_pos (by omega), if_pos (by omega), rdF l n hn, w1, ih']
    generalize wrap64 (Int.tdiv l[n].f0 4) = v
    by_cases e : v = s
    · rw [if_pos e, e, beq_self_eq_true, Bool.true_and]
    · rw [if_neg e, beq_eq_false_iff_ne.2 e, Bool.false_and]
theorem s_site (l : List S32) (s : Int) (hl : l.length ≤ 1000000000000) (k : Nat) (hk : l.length < k) : spec_l4Site.f k l s = some (siteAll s l) := s_site_loop l s hl l.length k 0 (by omega) (by omega) hk
theorem i_site_loop (l : List S32) (s : Int) (hl : l.length ≤ 1000000000000) (d : Nat) : ∀ (k n : Nat), n ≤ l.length → l.length - n = d → d < k → ∃ t, impl_Fact_69.l0 k l s (l.length : Int) (n : Int) = some t ∧ decide (t ≥ 0) = !siteAll s (l.drop n) := by
  induction d with
  | zero =>
    intro k n h0 h1 h2
    obtain ⟨k, rfl⟩ : ∃ m, k = m + 1 := ⟨k - 1, by omega⟩
    obtain rfl : n = l.length := by omega
    simp only [impl_Fact_69.l0]; rw [if_neg (by omega), List.drop_length]; exact ⟨_, rfl, rfl⟩
  | succ d ih =>
    intro k n h0 h1 h2
    obtain ⟨k, rfl⟩ : ∃ m, k = m + 1 := ⟨k - 1, by omega⟩
    have hn : n < l.length := by omega
    obtain ⟨t, e1, e2⟩ := ih k (n + 1) (by omega) (by omega) (by omega)
    have w1 : wrap64 ((n : Int) + 1) = ((n + 1 : Nat) : Int) := by rw [w64 (by omega) (by omega)]; omega
    rw [List.drop_eq_getElem_cons hn]
    simp only [impl_Fact_69.l0, siteAll, impl_ofSite_1.f, impl_siteOf.f, Option.bind_some]
    rw [if_pos (by omega), if_pos (by omega), if_pos (by omega), rdF l n hn, w1, e1]
    generalize wrap64 (Int.tdiv l[n].f0 4) = v
    by_cases e : v = s
    · rw [e, bne_self_eq_false, if_neg (by decide), beq_self_eq_true, Bool.true_and]; exact ⟨t, rfl, e2⟩
    · rw [bne_iff_ne.2 e, if_pos rfl, beq_eq_false_iff_ne.2 e, Bool.false_and]; exact ⟨_, rfl, decide_eq_true (by omega)⟩
theorem i_site (l : List S32) (s : Int) (hl : l.length ≤ 1000000000000) (k : Nat) (hk : l.length < k) : impl_ofSite.f k l s = some (siteAll s l) := by
  obtain ⟨t, e1, e2⟩ := i_site_loop l s hl l.length k 0 (by omega) (by omega) hk
  simp only [impl_ofSite.f, impl_Fact_65.f, impl_Fact_69.f]
  rw [show ((0 : Int)) = ((0 : Nat) : Int) from rfl, e1]
  simp only [Option.bind_some]
  rw [show ((0 : Nat) : Int) = 0 from rfl, e2, List.drop_zero, Bool.not_not]
def wtail (kd f : Int) (l : List S32) : Bool := if kd = 6 then (if (l.length : Int) > 0 then siteAll (wrap64 (Int.tdiv (rd_T32 l 0).f0 4)) l else false) else siteAll (wrap64 (Int.tdiv f 4)) l
theorem s_wtail (k : Nat) (b : Bool) (p kd f t s a x y h e : Int) (l : List S32) (hl : l.length ≤ 1000000000000) (hk : l.length < k) : spec_WordOk.j0 (k + 1) b p kd f t s a x y h e l = some (!b && wtail kd f l) := by
  simp only [spec_WordOk.j0, s_site l _ hl k hk, Option.bind_some, wtail]
  cases b
  · rw [if_neg (by decide)]
    by_cases h1 : kd = 6
    · rw [if_pos h1, if_pos h1]
      by_cases h2 : (l.length : Int) > 0
      · rw [if_pos h2, if_pos h2, if_pos h2]; rfl
      · rw [if_neg h2, if_neg h2]; rfl
    · rw [if_neg h1, if_neg h1]; rfl
  · rfl
theorem i_wtail (k : Nat) (b : Bool) (p kd f t s a x y h e : Int) (l : List S32) (hl : l.length ≤ 1000000000000) (hk : l.length < k) : impl_WordOk.j1 (k + 1) b p kd f t s a x y h e l = some (!b && wtail kd f l) := by
  simp only [impl_WordOk.j1, impl_siteOf.f, i_site l _ hl k hk, Option.bind_some, wtail]
  cases b
  · rw [if_neg (by decide)]
    by_cases h1 : kd = 6
    · rw [if_pos h1, if_pos h1]
      by_cases h2 : (l.length : Int) > 0
      · rw [if_pos h2, if_pos h2, if_pos h2]; rfl
      · rw [if_neg h2, if_neg h2]; rfl
    · rw [if_neg h1, if_neg h1]; rfl
  · rfl
def wok (p kd f t s a x y h e : Int) (l : List S32) : Bool := inB p 1 2 && (inB kd 1 6 && (inB f 0 7 && (inB t 0 7 && (inB s 0 999999 && (inB a 0 7 && (coordOk x y h e && (tOk l && wtail kd f l)))))))
theorem s_inB (a l h : Int) : spec_l1In.f a l h = some (inB a l h) := s_in a l h
theorem i_inB (a l h : Int) : impl_in.f a l h = some (inB a l h) := i_in a l h
theorem s_wok (k : Nat) (p kd f t s a x y h e : Int) (l : List S32) (hl : l.length ≤ 1000000000000) (hk : l.length < k) : spec_WordOk.f (k + 1) p kd f t s a x y h e l = some (wok p kd f t s a x y h e l) := by
  simp only [spec_WordOk.f, s_inB, s_coordOk, s_tab l hl (k + 1) (by omega), s_wtail k _ p kd f t s a x y h e l hl hk, Option.bind_some, wok]
  generalize inB p 1 2 = b1, inB kd 1 6 = b2, inB f 0 7 = b3, inB t 0 7 = b4, inB s 0 999999 = b5, inB a 0 7 = b6, coordOk x y h e = b7, tOk l = b8, wtail kd f l = c
  cases b1
  · rfl
  cases b2
  · rfl
  cases b3
  · rfl
  cases b4
  · rfl
  cases b5
  · rfl
  cases b6
  · rfl
  cases b7
  · rfl
  cases b8
  · rfl
  cases c <;> rfl
theorem i_wok (k : Nat) (p kd f t s a x y h e : Int) (l : List S32) (hl : l.length ≤ 1000000000000) (hk : l.length < k) : impl_WordOk.f (k + 2) p kd f t s a x y h e l = some (wok p kd f t s a x y h e l) := by
  simp only [impl_WordOk.f, impl_WordOk.j0, impl_isNode.f, i_inB, i_coordOk, i_tab l hl (k + 1) (by omega), i_wtail k _ p kd f t s a x y h e l hl hk, Option.bind_some, wok]
  generalize inB p 1 2 = b1, inB kd 1 6 = b2, inB f 0 7 = b3, inB t 0 7 = b4, inB s 0 999999 = b5, inB a 0 7 = b6, coordOk x y h e = b7, tOk l = b8, wtail kd f l = c
  cases b1
  · rfl
  cases b2
  · rfl
  cases b3
  · rfl
  cases b4
  · rfl
  cases b6
  · cases b5 <;> rfl
  cases b5
  · rfl
  cases b7
  · rfl
  cases b8
  · rfl
  cases c <;> rfl
theorem eqWord_self (k : Nat) (p kd f t s a x y h e : Int) (l : List S32) (hl : l.length ≤ 1000000000000) (hk : l.length < k) : laws_eqWord.f k p kd f t s a x y h e l p kd f t s a x y h e l = some true := by
  simp only [laws_eqWord.f, laws_eqCoord.f, if_true, eqS l hl k hk, Option.bind_some]
theorem toW (k : Nat) (p kd f t s a x y h e : Int) (l : List S30) (hl : l.length ≤ 1048576) (hk : l.length < k) : laws_toWord.f k p kd f t s a x y h e l = some (p, kd, f, t, s, a, x, y, h, e, l.map conv) := by
  simp only [laws_toWord.f, laws_toCoord.f, toS l hl k hk, Option.bind_some]
theorem FnExactWordOk : laws_FnExactWordOk.Pure := by
  intro p kd f t s a x y h e l _ _ _ _ _ _ _ _ _ _ hl
  obtain ⟨m, hm, hs⟩ := szS l hl.1
  refine ⟨l.length + 3, ?_⟩
  simp only [laws_FnExactWordOk.f, laws_szWord.f, hm, Option.bind_some]
  by_cases h0 : m < 0
  · rw [if_pos h0]; rfl
  · rw [if_neg h0]
    simp only [Option.bind_some]
    rw [if_neg h0]
    have hl' := hs (by omega)
    have hlen : (l.map conv).length = l.length := List.length_map ..
    simp only [toW (l.length + 3) p kd f t s a x y h e l hl' (by omega), s_wok (l.length + 2) p kd f t s a x y h e (l.map conv) (by omega) (by omega), i_wok (l.length + 1) p kd f t s a x y h e (l.map conv) (by omega) (by omega), eqWord_self (l.length + 3) p kd f t s a x y h e (l.map conv) (by omega) (by omega), Option.bind_some, bne_self_eq_false, Bool.false_eq_true, if_false, if_true]
end Go.Proofs.Ytnhalkdfkpebaaa.Pure
