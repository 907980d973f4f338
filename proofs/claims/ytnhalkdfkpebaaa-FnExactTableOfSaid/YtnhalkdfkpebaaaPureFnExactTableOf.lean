/- The program's TableOf, which halves, answers as the reference's, which walks, for every list of facts and every node, and leaves the list as it is. Conditions: none beyond the row's reach. -/
import Derived.Test.YtnhalkdfkpebaaaPFnExactTableOfx
set_option linter.unusedVariables false
set_option linter.unusedSimpArgs false
namespace Go.Proofs.Ytnhalkdfkpebaaa.Pure
open Go.RowKit Go.Proofs.Ytnhalkdfkpebaaa.PFnExactTableOf Go.Proofs.YtnhalkdfkpebaaaW.PrintWords Go.Proofs.YtnhalkdfkpebaaaW.PrintLast Go.Proofs.YtnhalkdfkpebaaaW.PrintMore
theorem w64 {n : Int} (h : -9223372036854775808 ≤ n) (h' : n ≤ 9223372036854775807) : wrap64 n = n := by unfold wrap64; omega
theorem lt_ge (a b : Int) : a < b ∨ b ≤ a := by omega
/-! ranges -/
theorem s_in (a l h : Int) : spec_l1In.f a l h = some (decide (l ≤ a) && decide (a ≤ h)) := by
  simp only [spec_l1In.f]
  by_cases h1 : a ≥ l
  · rw [if_pos h1, decide_eq_true (show l ≤ a from h1)]; rfl
  · rw [if_neg h1, decide_eq_false (show ¬ l ≤ a from h1)]; rfl
theorem i_in (a l h : Int) : impl_in.f a l h = some (decide (l ≤ a) && decide (a ≤ h)) := by
  simp only [impl_in.f]
  by_cases h1 : a ≥ l
  · rw [if_pos h1, decide_eq_true (show l ≤ a from h1)]; rfl
  · rw [if_neg h1, decide_eq_false (show ¬ l ≤ a from h1)]; rfl
theorem if_some {α : Type} (c : Bool) (x : α) (y z : Bool) : (if c = true then some y else some z : Option Bool) = some (if c = true then y else z) := by cases c <;> rfl
def inB (a l h : Int) : Bool := decide (l ≤ a) && decide (a ≤ h)
def factOk (n i s : Int) : Bool := inB n 0 7 && (inB i 0 999 && inB s 1 4)
theorem s_factOk (a b c : Int) (d : Bool) : spec_FactOk.f a b c d = some (factOk a b c) := by
  simp only [spec_FactOk.f, s_in, Option.bind_some, factOk, inB]
  cases (decide (0 ≤ a) && decide (a ≤ 7)) <;> cases (decide (0 ≤ b) && decide (b ≤ 999)) <;> simp
theorem i_factOk (a b c : Int) (d : Bool) : impl_FactOk.f a b c d = some (factOk a b c) := by
  simp only [impl_FactOk.f, impl_isNode.f, i_in, Option.bind_some, factOk, inB]
  cases (decide (0 ≤ a) && decide (a ≤ 7)) <;> cases (decide (0 ≤ b) && decide (b ≤ 999)) <;> simp
/-! tables: S32 a fact of the program's, S30 the statement's own -/
def fok (x : S32) : Bool := factOk x.f0 x.f1 x.f2
def tabB : Int → List S32 → Bool
  | _, [] => true
  | p, x :: xs => fok x && (decide (p < x.f0) && tabB x.f0 xs)
def prevOf (l : List S32) (n : Nat) : Int := if n = 0 then -1 else (rd_T32 l ((n - 1 : Nat) : Int)).f0
theorem fok_node {x : S32} (h : fok x = true) : 0 ≤ x.f0 ∧ x.f0 ≤ 7 ∧ 0 ≤ x.f1 ∧ x.f1 ≤ 999 ∧ 1 ≤ x.f2 ∧ x.f2 ≤ 4 := by
  simp only [fok, factOk, inB, Bool.and_eq_true, decide_eq_true_eq] at h
  omega
theorem rdF (l : List S32) (n : Nat) (h : n < l.length) : rd_T32 l (n : Int) = l[n] := by
  unfold rd_T32
  rw [Int.toNat_natCast, List.getD_eq_getElem?_getD, List.getElem?_eq_getElem h]; rfl
theorem tabB_step (l : List S32) (n : Nat) (h : n < l.length) : tabB (prevOf l n) (l.drop n) = (fok l[n] && (decide (prevOf l n < l[n].f0) && tabB (prevOf l (n + 1)) (l.drop (n + 1)))) := by
  rw [List.drop_eq_getElem_cons h]
  have e : prevOf l (n + 1) = l[n].f0 := by unfold prevOf; rw [if_neg (by omega), Nat.add_sub_cancel, rdF l n h]
  rw [e]; rfl
theorem s_tab_loop (l : List S32) (hl : l.length ≤ 1000000000000) (d : Nat) : ∀ (k n : Nat), n ≤ l.length → l.length - n = d → d < k → spec_TableOk.l0 k l (n : Int) = some (tabB (prevOf l n) (l.drop n)) := by
  induction d with
  | zero =>
    intro k n h0 h1 h2
    obtain ⟨k, rfl⟩ : ∃ m, k = m + 1 := ⟨k - 1, by omega⟩
    obtain rfl : n = l.length := by omega
    simp only [spec_TableOk.l0]; rw [if_neg (by omega), List.drop_length]; rfl
  | succ d ih =>
    intro k n h0 h1 h2
    obtain ⟨k, rfl⟩ : ∃ m, k = m + 1 := ⟨k - 1, by omega⟩
    have hn : n < l.length := by omega
    have ih' := ih k (n + 1) (by omega) (by omega) (by omega)
    have w1 : wrap64 ((n : Int) + 1) = ((n + 1 : Nat) : Int) := by rw [w64 (by omega) (by omega)]; omega
    rw [tabB_step l n hn]
    simp only [spec_TableOk.l0]
    rw [if_pos (by omega), if_pos (by omega), s_factOk, rdF l n hn, w1, ih']
    simp only [Option.bind_some]
    show (if fok l[n] = true then _ else _) = _
    cases hf : fok l[n]
    · rfl
    · obtain ⟨f0, -⟩ := fok_node hf
      rw [if_pos rfl, Bool.true_and]
      by_cases hz : n = 0
      · subst hz
        rw [if_neg (by omega), decide_eq_true (by unfold prevOf; rw [if_pos rfl]; omega), Bool.true_and]
      · have w2 : wrap64 ((n : Int) - 1) = ((n - 1 : Nat) : Int) := by rw [w64 (by omega) (by omega)]; omega
        have hp : prevOf l n = l[n - 1].f0 := by unfold prevOf; rw [if_neg hz, rdF l (n - 1) (by omega)]
        rw [if_pos (by omega), w2, if_pos (by omega), if_pos (by omega), rdF l (n - 1) (by omega), hp]
        by_cases hlt : l[n - 1].f0 < l[n].f0
        · rw [if_neg (by omega), decide_eq_true hlt, Bool.true_and]
        · rw [if_pos (by omega), decide_eq_false hlt, Bool.false_and]
theorem i_tab_loop (l : List S32) (hl : l.length ≤ 1000000000000) (d : Nat) : ∀ (k n : Nat), n ≤ l.length → l.length - n = d → d < k → impl_TableOk.l0 k l l (l.length : Int) (n : Int) = some (tabB (prevOf l n) (l.drop n)) := by
  induction d with
  | zero =>
    intro k n h0 h1 h2
    obtain ⟨k, rfl⟩ : ∃ m, k = m + 1 := ⟨k - 1, by omega⟩
    obtain rfl : n = l.length := by omega
    simp only [impl_TableOk.l0]; rw [if_neg (by omega), List.drop_length]; rfl
  | succ d ih =>
    intro k n h0 h1 h2
    obtain ⟨k, rfl⟩ : ∃ m, k = m + 1 := ⟨k - 1, by omega⟩
    have hn : n < l.length := by omega
    have ih' := ih k (n + 1) (by omega) (by omega) (by omega)
    have w1 : wrap64 ((n : Int) + 1) = ((n + 1 : Nat) : Int) := by rw [w64 (by omega) (by omega)]; omega
    rw [tabB_step l n hn]
    simp only [impl_TableOk.l0]
    rw [if_pos (by omega), if_pos (by omega), if_pos (by omega), i_factOk, rdF l n hn, w1, ih']
    simp only [Option.bind_some]
    show (if fok l[n] = true then _ else _) = _
    cases hf : fok l[n]
    · rfl
    · obtain ⟨f0, -⟩ := fok_node hf
      rw [if_pos rfl, Bool.true_and]
      by_cases hz : n = 0
      · subst hz
        rw [if_neg (by omega), decide_eq_true (by unfold prevOf; rw [if_pos rfl]; omega), Bool.true_and]
      · have w2 : wrap64 ((n : Int) - 1) = ((n - 1 : Nat) : Int) := by rw [w64 (by omega) (by omega)]; omega
        have hp : prevOf l n = l[n - 1].f0 := by unfold prevOf; rw [if_neg hz, rdF l (n - 1) (by omega)]
        rw [if_pos (by omega), w2, if_pos (by omega), if_pos (by omega), rdF l (n - 1) (by omega), hp]
        by_cases hlt : l[n - 1].f0 < l[n].f0
        · rw [if_neg (by omega), decide_eq_true hlt, Bool.true_and]
        · rw [if_pos (by omega), decide_eq_false hlt, Bool.false_and]
def tOk (l : List S32) : Bool := tabB (-1) l
theorem s_tab (l : List S32) (hl : l.length ≤ 1000000000000) (k : Nat) (hk : l.length < k) : spec_TableOk.f k l = some (tOk l) := s_tab_loop l hl l.length k 0 (by omega) (by omega) hk
theorem i_tab (l : List S32) (hl : l.length ≤ 1000000000000) (k : Nat) (hk : l.length < k) : impl_TableOk.f k l = some (tOk l) := i_tab_loop l hl l.length k 0 (by omega) (by omega) hk
def conv (x : S30) : S32 := ⟨x.f0, x.f1, x.f2, x.f3⟩
theorem rdL (l : List S30) (n : Nat) (h : n < l.length) : rd_T30 l (n : Int) = l[n] := by
  unfold rd_T30
  rw [Int.toNat_natCast, List.getD_eq_getElem?_getD, List.getElem?_eq_getElem h]; rfl
theorem toS_loop (l : List S30) (hl : l.length ≤ 1000000000000) (d : Nat) : ∀ (k n : Nat), n ≤ l.length → l.length - n = d → d < k → laws_toFactS.l0 k l ((l.take n).map conv ++ List.replicate (l.length - n) z32) (n : Int) = some (l.map conv) := by
  induction d with
  | zero =>
    intro k n h0 h1 h2
    obtain ⟨k, rfl⟩ : ∃ m, k = m + 1 := ⟨k - 1, by omega⟩
    obtain rfl : n = l.length := by omega
    simp only [laws_toFactS.l0]; rw [if_neg (by omega), List.take_length, Nat.sub_self]; simp
  | succ d ih =>
    intro k n h0 h1 h2
    obtain ⟨k, rfl⟩ : ∃ m, k = m + 1 := ⟨k - 1, by omega⟩
    have hn : n < l.length := by omega
    have ih' := ih k (n + 1) (by omega) (by omega) (by omega)
    have w1 : wrap64 ((n : Int) + 1) = ((n + 1 : Nat) : Int) := by rw [w64 (by omega) (by omega)]; omega
    have hlen : ((l.take n).map conv).length = n := by rw [List.length_map, List.length_take]; omega
    simp only [laws_toFactS.l0]
    rw [if_pos (by omega), if_pos (by omega)]
    simp only [laws_toFact.f, Option.bind_some]
    rw [if_pos (by rw [List.length_append, hlen, List.length_replicate]; omega), w1, rdL l n hn, Int.toNat_natCast, List.set_append_right (h := by omega), hlen, Nat.sub_self]
    have e : List.replicate (l.length - n) z32 = z32 :: List.replicate (l.length - (n + 1)) z32 := by rw [show l.length - n = (l.length - (n + 1)) + 1 by omega, List.replicate_succ]
    rw [e, List.set_cons_zero]
    have e2 : (l.take (n + 1)).map conv = (l.take n).map conv ++ [conv l[n]] := by rw [List.take_succ_eq_append_getElem hn, List.map_append]; rfl
    rw [e2, List.append_assoc] at ih'
    exact ih'
theorem toS (l : List S30) (hl : l.length ≤ 1048576) (k : Nat) (hk : l.length < k) : laws_toFactS.f k l = some (l.map conv) := by
  simp only [laws_toFactS.f, Int.toNat_natCast]
  rw [if_pos (by omega), if_pos (by omega)]
  have := toS_loop l (by omega) l.length k 0 (by omega) (by omega) hk
  simpa using this
theorem eqFact_self (x : S32) : laws_eqFact.f x.f0 x.f1 x.f2 x.f3 x.f0 x.f1 x.f2 x.f3 = some true := by
  simp only [laws_eqFact.f, if_true, bne_self_eq_false, Bool.false_eq_true, if_false]
theorem eqS_loop (l : List S32) (hl : l.length ≤ 1000000000000) (d : Nat) : ∀ (k n : Nat), n ≤ l.length → l.length - n = d → d < k → laws_eqFactS.l0 k l l (n : Int) = some true := by
  induction d with
  | zero =>
    intro k n h0 h1 h2
    obtain ⟨k, rfl⟩ : ∃ m, k = m + 1 := ⟨k - 1, by omega⟩
    simp only [laws_eqFactS.l0]; rw [if_neg (by omega)]
  | succ d ih =>
    intro k n h0 h1 h2
    obtain ⟨k, rfl⟩ : ∃ m, k = m + 1 := ⟨k - 1, by omega⟩
    have ih' := ih k (n + 1) (by omega) (by omega) (by omega)
    have w1 : wrap64 ((n : Int) + 1) = ((n + 1 : Nat) : Int) := by rw [w64 (by omega) (by omega)]; omega
    simp only [laws_eqFactS.l0]
    rw [if_pos (by omega), if_pos (by omega), if_pos (by omega), eqFact_self, w1]
    simp only [Option.bind_some, if_true]
    exact ih'
theorem eqS (l : List S32) (hl : l.length ≤ 1000000000000) (k : Nat) (hk : l.length < k) : laws_eqFactS.f k l l = some true := by
  simp only [laws_eqFactS.f, if_true]
  exact eqS_loop l hl l.length k 0 (by omega) (by omega) hk
theorem szS (l : List S30) (hl : l.length ≤ maxLen) : ∃ m, laws_szFactS.f l 1048576 = some m ∧ (0 ≤ m → l.length ≤ 1048576) := by
  unfold maxLen at hl
  have e : wrap64 (1048576 - (l.length : Int)) = 1048576 - (l.length : Int) := w64 (by omega) (by omega)
  simp only [laws_szFactS.f, e]
  by_cases h : 1048576 - (l.length : Int) < 0
  · rw [if_pos h]; exact ⟨_, rfl, by omega⟩
  · rw [if_neg h]; exact ⟨_, rfl, by omega⟩
theorem tabB_pw : ∀ (p : Int) (l : List S32), tabB p l = true → (∀ x ∈ l, p < x.f0) ∧ l.Pairwise (fun a b => a.f0 < b.f0)
  | _, [], _ => ⟨fun x hx => (by cases hx), List.Pairwise.nil⟩
  | p, y :: ys, h => by
    simp only [tabB, Bool.and_eq_true, decide_eq_true_eq] at h
    obtain ⟨h1, h2, h3⟩ := h
    obtain ⟨i1, i2⟩ := tabB_pw _ _ h3
    refine ⟨fun x hx => ?_, List.Pairwise.cons (fun b hb => i1 b hb) i2⟩
    rcases List.mem_cons.1 hx with rfl | hx
    · exact h2
    · have := i1 x hx; omega
theorem tab_lt (l : List S32) (h : tOk l = true) (i j : Nat) (hj : j < l.length) (hij : i < j) : (l[i]'(by omega)).f0 < l[j].f0 :=
  (List.pairwise_iff_getElem.1 (tabB_pw _ _ h).2) i j _ hj hij
def fnd (a : Int) : Int → List S32 → Int
  | _, [] => -1
  | n, x :: xs => if x.f0 = a then n else fnd a (n + 1) xs
theorem fnd_spec (a : Int) : ∀ (l : List S32) (n : Int), (fnd a n l = -1 ∧ ∀ x ∈ l, x.f0 ≠ a) ∨ (∃ i : Nat, ∃ h : i < l.length, fnd a n l = n + i ∧ (l[i]'h).f0 = a)
  | [], n => .inl ⟨rfl, fun x hx => (by cases hx)⟩
  | x :: xs, n => by
    by_cases e : x.f0 = a
    · exact .inr ⟨0, by simp, by simp only [fnd, if_pos e]; omega, e⟩
    · rcases fnd_spec a xs (n + 1) with ⟨h1, h2⟩ | ⟨i, hi, h1, h2⟩
      · refine .inl ⟨by simp only [fnd, if_neg e]; exact h1, fun y hy => ?_⟩
        rcases List.mem_cons.1 hy with rfl | hy
        · exact e
        · exact h2 y hy
      · exact .inr ⟨i + 1, by simpa using hi, by simp only [fnd, if_neg e, h1]; omega, h2⟩
theorem s_find_loop (l : List S32) (a : Int) (hl : l.length ≤ 1000000000000) (d : Nat) : ∀ (k n : Nat), n ≤ l.length → l.length - n = d → d < k → spec_l3Find.l0 k l a (n : Int) = some (fnd a (n : Int) (l.drop n)) := by
  induction d with
  | zero =>
    intro k n h0 h1 h2
    obtain ⟨k, rfl⟩ : ∃ m, k = m + 1 := ⟨k - 1, by omega⟩
    obtain rfl : n = l.length := by omega
    simp only [spec_l3Find.l0]; rw [if_neg (by omega), List.drop_length]; rfl
  | succ d ih =>
    intro k n h0 h1 h2
    obtain ⟨k, rfl⟩ : ∃ m, k = m + 1 := ⟨k - 1, by omega⟩
    have hn : n < l.length := by omega
    have ih' := ih k (n + 1) (by omega) (by omega) (by omega)
    have w1 : wrap64 ((n : Int) + 1) = ((n + 1 : Nat) : Int) := by rw [w64 (by omega) (by omega)]; omega
    rw [List.drop_eq_getElem_cons hn]
    simp only [spec_l3Find.l0, fnd]
    rw [if_pos (by omega), if_pos (by omega), rdF l n hn, w1, ih']
    by_cases e : l[n].f0 = a
    · rw [if_pos e, if_pos e]
    · rw [if_neg e, if_neg e]; rfl
theorem s_find (l : List S32) (a : Int) (hl : l.length ≤ 1000000000000) (k : Nat) (hk : l.length < k) : spec_l3Find.f k l a = some (fnd a 0 l) := s_find_loop l a hl l.length k 0 (by omega) (by omega) hk
def cmpI (a b : Int) : Int := if a < b then -1 else if a > b then 1 else 0
theorem i_cmp (a b : Int) : cmp_Compare_int.f a b = some (cmpI a b) := by
  simp only [cmp_Compare_int.f, cmp_isNaN_int.f, Option.bind_some, bne_self_eq_false, Bool.false_eq_true, if_false, cmpI]
  split
  · rfl
  · split <;> rfl
theorem cmp_lt (a b : Int) : cmpI a b < 0 ↔ a < b := by
  unfold cmpI; split
  · exact ⟨fun _ => ‹_›, fun _ => by omega⟩
  · split <;> exact ⟨fun h => absurd h (by omega), fun h => absurd h ‹_›⟩
theorem cmp_eq (a b : Int) : (cmpI a b == 0) = decide (a = b) := by
  unfold cmpI; split
  · rw [decide_eq_false (by omega)]; rfl
  · split
    · rw [decide_eq_false (by omega)]; rfl
    · rw [decide_eq_true (by omega)]; rfl
theorem u64w {n : Int} (h : 0 ≤ n) (h' : n ≤ 9223372036854775807) : IntKind.u64.wrap n = n := by
  unfold IntKind.wrap; simp only [IntKind.bits, IntKind.signed]; first | omega | (simp; omega)
theorem half (i j : Nat) (hj : j ≤ 1000000000000) (hi : i ≤ 1000000000000) : wrap64 (IntKind.u64.wrap (wrap64 ((i : Int) + (j : Int))) / 2) = (((i + j) / 2 : Nat) : Int) := by
  rw [w64 (n := (i : Int) + j) (by omega) (by omega), u64w (by omega) (by omega), w64 (by omega) (by omega)]; omega
theorem i_bin (l : List S32) (a : Int) (hl : l.length ≤ 1000000000000) (hs : tOk l = true) (d : Nat) : ∀ (k i j : Nat), i ≤ j → j ≤ l.length → j - i ≤ d → d < k → (∀ t (h : t < l.length), t < i → l[t].f0 < a) → (∀ t (h : t < l.length), j ≤ t → a ≤ l[t].f0) →
    ∃ (m : Nat) (b : Bool), impl_Fact_int.l0 k l a (l.length : Int) (i : Int) (j : Int) = some ((m : Int), b) ∧ (b = true → ∃ h : m < l.length, (l[m]'h).f0 = a) ∧ (b = false → ∀ t (h : t < l.length), l[t].f0 ≠ a) := by
  induction d with
  | zero =>
    intro k i j h1 h2 h3 h4 p q
    obtain ⟨k, rfl⟩ : ∃ m, k = m + 1 := ⟨k - 1, by omega⟩
    obtain rfl : i = j := by omega
    simp only [impl_Fact_int.l0]
    rw [if_neg (by omega)]
    by_cases hn : i < l.length
    · rw [if_pos (by omega), if_pos (by omega), if_pos (by omega), rdF l i hn]
      simp only [impl_find_1.f, i_cmp, Option.bind_some, cmp_eq]
      refine ⟨i, _, rfl, fun hb => ⟨hn, of_decide_eq_true hb⟩, fun hb t ht he => ?_⟩
      have hne := of_decide_eq_false hb
      by_cases c1 : t < i
      · have := p t ht c1; omega
      · by_cases c2 : t = i
        · subst c2; exact hne he
        · have h5 := tab_lt l hs i t ht (by omega)
          have h6 := q i hn (by omega)
          omega
    · rw [if_neg (by omega)]
      refine ⟨i, false, rfl, fun hb => (by cases hb), fun _ t ht he => ?_⟩
      have := p t ht (by omega); omega
  | succ d ih =>
    intro k i j h1 h2 h3 h4 p q
    obtain ⟨k, rfl⟩ : ∃ m, k = m + 1 := ⟨k - 1, by omega⟩
    by_cases hij : i < j
    · generalize hm : (i + j) / 2 = m
      have hmi : i ≤ m := by omega
      have hmj : m < j := by omega
      have hml : m < l.length := by omega
      have hw := half i j (by omega) (by omega)
      rw [hm] at hw
      have w1 : wrap64 ((m : Int) + 1) = ((m + 1 : Nat) : Int) := by rw [w64 (by omega) (by omega)]; omega
      simp only [impl_Fact_int.l0, hw, w1]
      clear hw w1
      rw [if_pos (by omega), if_pos (by omega), if_pos (by omega), rdF l m hml]
      simp only [impl_find_1.f, i_cmp, Option.bind_some, cmp_lt]
      by_cases hc : l[m].f0 < a
      · rw [if_pos hc]
        refine ih k (m + 1) j (by omega) h2 (by omega) (by omega) (fun t ht htm => ?_) q
        by_cases e : t = m
        · subst e; exact hc
        · have := tab_lt l hs t m hml (by omega); omega
      · rw [if_neg hc]
        refine ih k i m (by omega) (by omega) (by omega) (by omega) p (fun t ht htm => ?_)
        by_cases e : t = m
        · subst e; omega
        · have := tab_lt l hs m t ht (by omega); omega
    · obtain rfl : i = j := by omega
      exact ih (k + 1) i i (by omega) h2 (by omega) (by omega) p q
theorem i_find (l : List S32) (a : Int) (hl : l.length ≤ 1000000000000) (hs : tOk l = true) (k : Nat) (hk : l.length < k) : ∃ (m : Nat) (b : Bool), impl_find.f k l a = some ((m : Int), b) ∧ (b = true → ∃ h : m < l.length, (l[m]'h).f0 = a) ∧ (b = false → ∀ t (h : t < l.length), l[t].f0 ≠ a) := by
  obtain ⟨m, b, h1, h2⟩ := i_bin l a hl hs l.length k 0 l.length (by omega) (by omega) (by omega) hk (fun t ht h => absurd h (by omega)) (fun t ht h => absurd ht (by omega))
  refine ⟨m, b, ?_, h2⟩
  simp only [impl_find.f, impl_Fact_int.f]
  rw [show ((0 : Int)) = ((0 : Nat) : Int) from rfl, h1]; rfl
def tof (l : List S32) (a : Int) : Int × Int × Int × Bool × Bool := if tOk l = true then (if fnd a 0 l < 0 then (0, 0, 0, false, false) else ((rd_T32 l (fnd a 0 l)).f0, (rd_T32 l (fnd a 0 l)).f1, (rd_T32 l (fnd a 0 l)).f2, (rd_T32 l (fnd a 0 l)).f3, true)) else (0, 0, 0, false, false)
theorem fnd_lt (l : List S32) (a : Int) : fnd a 0 l < 0 ∨ (0 ≤ fnd a 0 l ∧ fnd a 0 l < (l.length : Int)) := by
  rcases fnd_spec a l 0 with ⟨h, -⟩ | ⟨i, hi, h, -⟩
  · exact .inl (by omega)
  · exact .inr (by omega)
theorem s_tof (l : List S32) (a : Int) (hl : l.length ≤ 1000000000000) (k : Nat) (hk : l.length < k) : spec_TableOf.f k l a = some (tof l a) := by
  simp only [spec_TableOf.f, s_find l a hl k hk, s_tab l hl k hk, Option.bind_some, tof]
  by_cases h : tOk l = true
  · rw [if_pos h, if_pos h]
    rcases fnd_lt l a with h1 | ⟨h1, h2⟩
    · rw [if_pos h1, if_pos h1]
    · rw [if_neg (by omega), if_pos h1, if_pos h2, if_neg (by omega)]
  · rw [if_neg h, if_neg h]
theorem i_tof (l : List S32) (a : Int) (hl : l.length ≤ 1000000000000) (k : Nat) (hk : l.length < k) : impl_TableOf.f k l a = some (tof l a) := by
  simp only [impl_TableOf.f, i_tab l hl k hk, Option.bind_some, tof]
  by_cases h : tOk l = true
  · rw [if_pos h, if_pos h]
    obtain ⟨m, b, e, h1, h2⟩ := i_find l a hl h k hk
    simp only [e, Option.bind_some]
    cases b
    · rw [if_neg (by decide), if_pos ?_]
      rcases fnd_spec a l 0 with ⟨h, -⟩ | ⟨i, hi, -, h4⟩
      · omega
      · exact absurd h4 (h2 rfl i hi)
    · obtain ⟨hm, e1⟩ := h1 rfl
      rw [if_pos rfl, if_pos (by omega), if_pos (by omega)]
      rcases fnd_spec a l 0 with ⟨-, h4⟩ | ⟨i, hi, h3, h4⟩
      · exact absurd e1 (h4 _ (List.getElem_mem hm))
      · obtain rfl : i = m := by
          rcases Nat.lt_trichotomy i m with c | c | c
          · have := tab_lt l h i m hm c; omega
          · exact c
          · have := tab_lt l h m i hi c; omega
        rw [if_neg (by omega), h3, Int.zero_add]
  · rw [if_neg h, if_neg h]
theorem eqFact_same (a b c : Int) (d : Bool) : laws_eqFact.f a b c d a b c d = some true := by
  simp only [laws_eqFact.f, if_true, bne_self_eq_false, Bool.false_eq_true, if_false]
theorem FnExactTableOf : laws_FnExactTableOf.Pure := by
  intro l a hl _ _
  obtain ⟨m, hm, hs⟩ := szS l hl
  refine ⟨l.length + 2, ?_⟩
  simp only [laws_FnExactTableOf.f, hm, Option.bind_some]
  by_cases h0 : m < 0
  · rw [if_pos h0]
  · rw [if_neg h0]
    have hl' := hs (by omega)
    have hlen : (l.map conv).length = l.length := List.length_map ..
    simp only [toS l hl' (l.length + 2) (by omega), s_tof (l.map conv) a (by omega) (l.length + 2) (by omega), i_tof (l.map conv) a (by omega) (l.length + 2) (by omega), Option.bind_some, eqFact_same, bne_self_eq_false, if_true]
    simp only [laws_FnExactTableOf.j0, Bool.false_eq_true, if_false]
    simp only [toS l hl' (l.length + 1) (by omega), eqS (l.map conv) (by omega) (l.length + 1) (by omega), Option.bind_some, if_true]
end Go.Proofs.Ytnhalkdfkpebaaa.Pure
