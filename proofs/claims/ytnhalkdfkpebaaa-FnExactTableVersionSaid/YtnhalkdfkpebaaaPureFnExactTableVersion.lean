/- The program's TableVersion answers as the reference's, for every list of facts, and leaves it as it is. Conditions: none beyond the row's reach. -/
import Derived.Test.YtnhalkdfkpebaaaPFnExactTableVersionx
set_option linter.unusedVariables false
set_option linter.unusedSimpArgs false
namespace Go.Proofs.Ytnhalkdfkpebaaa.Pure
open Go.RowKit Go.Proofs.Ytnhalkdfkpebaaa.PFnExactTableVersion Go.Proofs.YtnhalkdfkpebaaaW.PrintWords Go.Proofs.YtnhalkdfkpebaaaW.PrintLast Go.Proofs.YtnhalkdfkpebaaaW.PrintMore
theorem w64 {n : Int} (h : -9223372036854775808 ≤ n) (h' : n ≤ 9223372036854775807) : wrap64 n = n := by unfold wrap64; omega
theorem lt_ge (a b : Int) : a < b ∨ b ≤ a := by omega
/-! ranges -/
theorem s_in (a l h : Int) : spec_l1In.f a l h = some (decide (l ≤ a) && decide (a ≤ h)) := by
  simp only [spec_l1In.f]
  by_cases h1 : a ≥ l
  · rw [if_pos h1, decide_eq_true (show l ≤ a from h1)]; rfl
  · rw [if_neg h1, decide_eq_false (show ¬ l ≤ a from h1)]; rfl
theorem i_in (a l h : Int) : impl_in.f a l h = some (decide (l ≤ a) && decide (a ≤ h)) := by
  simp only [impl_in.f]
  by_cases h1 : a ≥ l
  · rw [if_pos h1, decide_eq_true (show l ≤ a from h1)]; rfl
  · rw [if_neg h1, decide_eq_false (show ¬ l ≤ a from h1)]; rfl
theorem if_some {α : Type} (c : Bool) (x : α) (y z : Bool) : (if c = true then some y else some z : Option Bool) = some (if c = true then y else z) := by cases c <;> rfl
def inB (a l h : Int) : Bool := decide (l ≤ a) && decide (a ≤ h)
def factOk (n i s : Int) : Bool := inB n 0 7 && (inB i 0 999 && inB s 1 4)
theorem s_factOk (a b c : Int) (d : Bool) : spec_FactOk.f a b c d = some (factOk a b c) := by
  simp only [spec_FactOk.f, s_in, Option.bind_some, factOk, inB]
  cases (decide (0 ≤ a) && decide (a ≤ 7)) <;> cases (decide (0 ≤ b) && decide (b ≤ 999)) <;> simp
theorem i_factOk (a b c : Int) (d : Bool) : impl_FactOk.f a b c d = some (factOk a b c) := by
  simp only [impl_FactOk.f, impl_isNode.f, i_in, Option.bind_some, factOk, inB]
  cases (decide (0 ≤ a) && decide (a ≤ 7)) <;> cases (decide (0 ≤ b) && decide (b ≤ 999)) <;> simp
/-! tables: S32 a fact of the program's, S30 the statement's own -/
def fok (x : S32) : Bool := factOk x.f0 x.f1 x.f2
def tabB : Int → List S32 → Bool
  | _, [] => true
  | p, x :: xs => fok x && (decide (p < x.f0) && tabB x.f0 xs)
def prevOf (l : List S32) (n : Nat) : Int := if n = 0 then -1 else (rd_T32 l ((n - 1 : Nat) : Int)).f0
theorem fok_node {x : S32} (h : fok x = true) : 0 ≤ x.f0 ∧ x.f0 ≤ 7 ∧ 0 ≤ x.f1 ∧ x.f1 ≤ 999 ∧ 1 ≤ x.f2 ∧ x.f2 ≤ 4 := by
  simp only [fok, factOk, inB, Bool.and_eq_true, decide_eq_true_eq] at h
  omega
theorem rdF (l : List S32) (n : Nat) (h : n < l.length) : rd_T32 l (n : Int) = l[n] := by
  unfold rd_T32
  rw [Int.toNat_natCast, List.getD_eq_getElem?_getD, List.getElem?_eq_getElem h]; rfl
theorem tabB_step (l : List S32) (n : Nat) (h : n < l.length) : tabB (prevOf l n) (l.drop n) = (fok l[n] && (decide (prevOf l n < l[n].f0) && tabB (prevOf l (n + 1)) (l.drop (n + 1)))) := by
  rw [List.drop_eq_getElem_cons h]
  have e : prevOf l (n + 1) = l[n].f0 := by unfold prevOf; rw [if_neg (by omega), Nat.add_sub_cancel, rdF l n h]
  rw [e]; rfl
theorem s_tab_loop (l : List S32) (hl : l.length ≤ 1000000000000) (d : Nat) : ∀ (k n : Nat), n ≤ l.length → l.length - n = d → d < k → spec_TableOk.l0 k l (n : Int) = some (tabB (prevOf l n) (l.drop n)) := by
  induction d with
  | zero =>
    intro k n h0 h1 h2
    obtain ⟨k, rfl⟩ : ∃ m, k = m + 1 := ⟨k - 1, by omega⟩
    obtain rfl : n = l.length := by omega
    simp only [spec_TableOk.l0]; rw [if_neg (by omega), List.drop_length]; rfl
  | succ d ih =>
    intro k n h0 h1 h2
    obtain ⟨k, rfl⟩ : ∃ m, k = m + 1 := ⟨k - 1, by omega⟩
    have hn : n < l.length := by omega
    have ih' := ih k (n + 1) (by omega) (by omega) (by omega)
    have w1 : wrap64 ((n : Int) + 1) = ((n + 1 : Nat) : Int) := by rw [w64 (by omega) (by omega)]; omega
    rw [tabB_step l n hn]
    simp only [spec_TableOk.l0]
    rw [if_pos (by omega), if_pos (by omega), s_factOk, rdF l n hn, w1, ih']
    simp only [Option.bind_some]
    show (if fok l[n] = true then _ else _) = _
    cases hf : fok l[n]
    · rfl
    · obtain ⟨f0, -⟩ := fok_node hf
      rw [if_pos rfl, Bool.true_and]
      by_cases hz : n = 0
      · subst hz
        rw [if_neg (by omega), decide_eq_true (by unfold prevOf; rw [if_pos rfl]; omega), Bool.true_and]
      · have w2 : wrap64 ((n : Int) - 1) = ((n - 1 : Nat) : Int) := by rw [w64 (by omega) (by omega)]; omega
        have hp : prevOf l n = l[n - 1].f0 := by unfold prevOf; rw [if_neg hz, rdF l (n - 1) (by omega)]
        rw [if_pos (by omega), w2, if_pos (by omega), if_pos (by omega), rdF l (n - 1) (by omega), hp]
        by_cases hlt : l[n - 1].f0 < l[n].f0
        · rw [if_neg (by omega), decide_eq_true hlt, Bool.true_and]
        · rw [if_pos (by omega), decide_eq_false hlt, Bool.false_and]
theorem i_tab_loop (l : List S32) (hl : l.length ≤ 1000000000000) (d : Nat) : ∀ (k n : Nat), n ≤ l.length → l.length - n = d → d < k → impl_TableOk.l0 k l l (l.length : Int) (n : Int) = some (tabB (prevOf l n) (l.drop n)) := by
  induction d with
  | zero =>
    intro k n h0 h1 h2
    obtain ⟨k, rfl⟩ : ∃ m, k = m + 1 := ⟨k - 1, by omega⟩
    obtain rfl : n = l.length := by omega
    simp only [impl_TableOk.l0]; rw [if_neg (by omega), List.drop_length]; rfl
  | succ d ih =>
    intro k n h0 h1 h2
    obtain ⟨k, rfl⟩ : ∃ m, k = m + 1 := ⟨k - 1, by omega⟩
    have hn : n < l.length := by omega
    have ih' := ih k (n + 1) (by omega) (by omega) (by omega)
    have w1 : wrap64 ((n : Int) + 1) = ((n + 1 : Nat) : Int) := by rw [w64 (by omega) (by omega)]; omega
    rw [tabB_step l n hn]
    simp only [impl_TableOk.l0]
    rw [if_pos (by omega), if_pos (by omega), if_pos (by omega), i_factOk, rdF l n hn, w1, ih']
    simp only [Option.bind_some]
    show (if fok l[n] = true then _ else _) = _
    cases hf : fok l[n]
    · rfl
    · obtain ⟨f0, -⟩ := fok_node hf
      rw [if_pos rfl, Bool.true_and]
      by_cases hz : n = 0
      · subst hz
        rw [if_neg (by omega), decide_eq_true (by unfold prevOf; rw [if_pos rfl]; omega), Bool.true_and]
      · have w2 : wrap64 ((n : Int) - 1) = ((n - 1 : Nat) : Int) := by rw [w64 (by omega) (by omega)]; omega
        have hp : prevOf l n = l[n - 1].f0 := by unfold prevOf; rw [if_neg hz, rdF l (n - 1) (by omega)]
        rw [if_pos (by omega), w2, if_pos (by omega), if_pos (by omega), rdF l (n - 1) (by omega), hp]
        by_cases hlt : l[n - 1].f0 < l[n].f0
        · rw [if_neg (by omega), decide_eq_true hlt, Bool.true_and]
        · rw [if_pos (by omega), decide_eq_false hlt, Bool.false_and]
def tOk (l : List S32) : Bool := tabB (-1) l
theorem s_tab (l : List S32) (hl : l.length ≤ 1000000000000) (k : Nat) (hk : l.length < k) : spec_TableOk.f k l = some (tOk l) := s_tab_loop l hl l.length k 0 (by omega) (by omega) hk
theorem i_tab (l : List S32) (hl : l.length ≤ 1000000000000) (k : Nat) (hk : l.length < k) : impl_TableOk.f k l = some (tOk l) := i_tab_loop l hl l.length k 0 (by omega) (by omega) hk
def conv (x : S30) : S32 := ⟨x.f0, x.f1, x.f2, x.f3⟩
theorem rdL (l : List S30) (n : Nat) (h : n < l.length) : rd_T30 l (n : Int) = l[n] := by
  unfold rd_T30
  rw [Int.toNat_natCast, List.getD_eq_getElem?_getD, List.getElem?_eq_getElem h]; rfl
theorem toS_loop (l : List S30) (hl : l.length ≤ 1000000000000) (d : Nat) : ∀ (k n : Nat), n ≤ l.length → l.length - n = d → d < k → laws_toFactS.l0 k l ((l.take n).map conv ++ List.replicate (l.length - n) z32) (n : Int) = some (l.map conv) := by
  induction d with
  | zero =>
    intro k n h0 h1 h2
    obtain ⟨k, rfl⟩ : ∃ m, k = m + 1 := ⟨k - 1, by omega⟩
    obtain rfl : n = l.length := by omega
    simp only [laws_toFactS.l0]; rw [if_neg (by omega), List.take_length, Nat.sub_self]; simp
  | succ d ih =>
    intro k n h0 h1 h2
    obtain ⟨k, rfl⟩ : ∃ m, k = m + 1 := ⟨k - 1, by omega⟩
    have hn : n < l.length := by omega
    have ih' := ih k (n + 1) (by omega) (by omega) (by omega)
    have w1 : wrap64 ((n : Int) + 1) = ((n + 1 : Nat) : Int) := by rw [w64 (by omega) (by omega)]; omega
    have hlen : ((l.take n).map conv).length = n := by rw [List.length_map, List.length_take]; omega
    simp only [laws_toFactS.l0]
    rw [if_pos (by omega), if_pos (by omega)]
    simp only [laws_toFact.f, Option.bind_some]
    rw [if_pos (by rw [List.length_append, hlen, List.length_replicate]; omega), w1, rdL l n hn, Int.toNat_natCast, List.set_append_right (h := by omega), hlen, Nat.sub_self]
    have e : List.replicate (l.length - n) z32 = z32 :: List.replicate (l.length - (n + 1)) z32 := by rw [show l.length - n = (l.length - (n + 1)) + 1 by omega, List.replicate_succ]
    rw [e, List.set_cons_zero]
    have e2 : (l.take (n + 1)).map conv = (l.take n).map conv ++ [conv l[n]] := by rw [List.take_succ_eq_append_getElem hn, List.map_append]; rfl
    rw [e2, List.append_assoc] at ih'
    exact ih'
theorem toS (l : List S30) (hl : l.length ≤ 1048576) (k : Nat) (hk : l.length < k) : laws_toFactS.f k l = some (l.map conv) := by
  simp only [laws_toFactS.f, Int.toNat_natCast]
  rw [if_pos (by omega), if_pos (by omega)]
  have := toS_loop l (by omega) l.length k 0 (by omega) (by omega) hk
  simpa using this
theorem eqFact_self (x : S32) : laws_eqFact.f x.f0 x.f1 x.f2 x.f3 x.f0 x.f1 x.f2 x.f3 = some true := by
  simp only [laws_eqFact.f, if_true, bne_self_eq_false, Bool.false_eq_true, if_false]
theorem eqS_loop (l : List S32) (hl : l.length ≤ 1000000000000) (d : Nat) : ∀ (k n : Nat), n ≤ l.length → l.length - n = d → d < k → laws_eqFactS.l0 k l l (n : Int) = some true := by
  induction d with
  | zero =>
    intro k n h0 h1 h2
    obtain ⟨k, rfl⟩ : ∃ m, k = m + 1 := ⟨k - 1, by omega⟩
    simp only [laws_eqFactS.l0]; rw [if_neg (by omega)]
  | succ d ih =>
    intro k n h0 h1 h2
    obtain ⟨k, rfl⟩ : ∃ m, k = m + 1 := ⟨k - 1, by omega⟩
    have ih' := ih k (n + 1) (by omega) (by omega) (by omega)
    have w1 : wrap64 ((n : Int) + 1) = ((n + 1 : Nat) : Int) := by rw [w64 (by omega) (by omega)]; omega
    simp only [laws_eqFactS.l0]
    rw [if_pos (by omega), if_pos (by omega), if_pos (by omega), eqFact_self, w1]
    simp only [Option.bind_some, if_true]
    exact ih'
theorem eqS (l : List S32) (hl : l.length ≤ 1000000000000) (k : Nat) (hk : l.length < k) : laws_eqFactS.f k l l = some true := by
  simp only [laws_eqFactS.f, if_true]
  exact eqS_loop l hl l.length k 0 (by omega) (by omega) hk
theorem szS (l : List S30) (hl : l.length ≤ maxLen) : ∃ m, laws_szFactS.f l 1048576 = some m ∧ (0 ≤ m → l.length ≤ 1048576) := by
  unfold maxLen at hl
  have e : wrap64 (1048576 - (l.length : Int)) = 1048576 - (l.length : Int) := w64 (by omega) (by omega)
  simp only [laws_szFactS.f, e]
  by_cases h : 1048576 - (l.length : Int) < 0
  · rw [if_pos h]; exact ⟨_, rfl, by omega⟩
  · rw [if_neg h]; exact ⟨_, rfl, by omega⟩
def ver (x : S32) : Int := 1 + x.f1 * 16 + x.f2 * 2 + (if x.f3 = true then 1 else 0)
def verS (l : List S32) : Int := (l.map ver).sum
theorem tabB_all : ∀ (p : Int) (l : List S32), tabB p l = true → ∀ x ∈ l, fok x = true
  | _, [], _ => fun x hx => by cases hx
  | p, y :: ys, h => fun x hx => by
    simp only [tabB, Bool.and_eq_true] at h
    rcases List.mem_cons.1 hx with rfl | hx
    · exact h.1
    · exact tabB_all _ _ h.2.2 x hx
theorem ver_bd {x : S32} (h : fok x = true) : 1 ≤ ver x ∧ ver x ≤ 16000 := by
  obtain ⟨_, _, _, _, _, _⟩ := fok_node h
  unfold ver; split <;> omega
theorem s_ver_loop (l : List S32) (hl : l.length ≤ 1048577) (hok : ∀ x ∈ l, fok x = true) (d : Nat) : ∀ (k n : Nat) (acc : Int), n ≤ l.length → l.length - n = d → d < k → 0 ≤ acc → acc ≤ 16000 * n → spec_TableVersion.l0 k l acc (n : Int) = some (acc + verS (l.drop n)) := by
  induction d with
  | zero =>
    intro k n acc h0 h1 h2 h3 h4
    obtain ⟨k, rfl⟩ : ∃ m, k = m + 1 := ⟨k - 1, by omega⟩
    obtain rfl : n = l.length := by omega
    simp only [spec_TableVersion.l0]; rw [if_neg (by omega), List.drop_length]; simp [verS]
  | succ d ih =>
    intro k n acc h0 h1 h2 h3 h4
    obtain ⟨k, rfl⟩ : ∃ m, k = m + 1 := ⟨k - 1, by omega⟩
    have hn : n < l.length := by omega
    have hf := hok l[n] (List.getElem_mem hn)
    obtain ⟨b0, b1⟩ := ver_bd hf
    obtain ⟨c1, c2, c3, c4, c5, c6⟩ := fok_node hf
    have ih' := ih k (n + 1) (acc + ver l[n]) (by omega) (by omega) (by omega) (by omega) (by omega)
    have w1 : wrap64 ((n : Int) + 1) = ((n + 1 : Nat) : Int) := by rw [w64 (by omega) (by omega)]; omega
    rw [List.drop_eq_getElem_cons hn]
    simp only [verS, List.map_cons, List.sum_cons] at ih' ⊢
    rw [← Int.add_assoc, ← ih']
    simp only [spec_TableVersion.l0, w1]
    clear w1 ih'
    rw [if_pos (by omega), if_pos (by omega), rdF l n hn]
    rw [w64 (n := acc + 1) (by omega) (by omega), w64 (n := l[n].f1 * 16) (by omega) (by omega), w64 (n := l[n].f2 * 2) (by omega) (by omega), w64 (n := acc + 1 + l[n].f1 * 16) (by omega) (by omega), w64 (n := acc + 1 + l[n].f1 * 16 + l[n].f2 * 2) (by omega) (by omega), w64 (n := acc + 1 + l[n].f1 * 16 + l[n].f2 * 2 + 1) (by omega) (by omega)]
    unfold ver
    cases hg : l[n].f3
    · rw [if_neg (by decide), if_neg (by decide)]; congr 1; omega
    · rw [if_pos rfl, if_pos rfl]; congr 1; omega
theorem i_ver_loop (l : List S32) (hl : l.length ≤ 1048577) (hok : ∀ x ∈ l, fok x = true) (d : Nat) : ∀ (k n : Nat) (acc : Int), n ≤ l.length → l.length - n = d → d < k → 0 ≤ acc → acc ≤ 16000 * n → impl_TableVersion.l0 k acc l (l.length : Int) (n : Int) = some (acc + verS (l.drop n)) := by
  induction d with
  | zero =>
    intro k n acc h0 h1 h2 h3 h4
    obtain ⟨k, rfl⟩ : ∃ m, k = m + 1 := ⟨k - 1, by omega⟩
    obtain rfl : n = l.length := by omega
    simp only [impl_TableVersion.l0]; rw [if_neg (by omega), List.drop_length]; simp [verS]
  | succ d ih =>
    intro k n acc h0 h1 h2 h3 h4
    obtain ⟨k, rfl⟩ : ∃ m, k = m + 1 := ⟨k - 1, by omega⟩
    have hn : n < l.length := by omega
    have hf := hok l[n] (List.getElem_mem hn)
    obtain ⟨b0, b1⟩ := ver_bd hf
    obtain ⟨c1, c2, c3, c4, c5, c6⟩ := fok_node hf
    have ih' := ih k (n + 1) (acc + ver l[n]) (by omega) (by omega) (by omega) (by omega) (by omega)
    have w1 : wrap64 ((n : Int) + 1) = ((n + 1 : Nat) : Int) := by rw [w64 (by omega) (by omega)]; omega
    rw [List.drop_eq_getElem_cons hn]
    simp only [verS, List.map_cons, List.sum_cons] at ih' ⊢
    rw [← Int.add_assoc, ← ih']
    simp only [impl_TableVersion.l0, w1]
    clear w1 ih'
    rw [if_pos (by omega), if_pos (by omega), if_pos (by omega), rdF l n hn]
    rw [w64 (n := l[n].f1 * 16) (by omega) (by omega), w64 (n := l[n].f2 * 2) (by omega) (by omega), w64 (n := 1 + l[n].f1 * 16) (by omega) (by omega), w64 (n := 1 + l[n].f1 * 16 + l[n].f2 * 2) (by omega) (by omega), w64 (n := acc + (1 + l[n].f1 * 16 + l[n].f2 * 2)) (by omega) (by omega), w64 (n := acc + (1 + l[n].f1 * 16 + l[n].f2 * 2) + 1) (by omega) (by omega)]
    unfold ver
    cases hg : l[n].f3
    · rw [if_neg (by decide), if_neg (by decide)]; congr 1; omega
    · rw [if_pos rfl, if_pos rfl]; congr 1; omega
def verOf (l : List S32) : Int := if tOk l = true then verS l else 0
theorem s_ver (l : List S32) (hl : l.length ≤ 1048577) (k : Nat) (hk : l.length < k) : spec_TableVersion.f k l = some (verOf l) := by
  simp only [spec_TableVersion.f, s_tab l (by omega) k hk, Option.bind_some, verOf]
  cases ht : tOk l
  · rfl
  · rw [if_pos rfl, if_pos rfl]
    have := s_ver_loop l hl (tabB_all _ _ ht) l.length k 0 0 (by omega) (by omega) hk (by omega) (by omega)
    simpa using this
theorem i_ver (l : List S32) (hl : l.length ≤ 1048577) (k : Nat) (hk : l.length < k) : impl_TableVersion.f k l = some (verOf l) := by
  simp only [impl_TableVersion.f, i_tab l (by omega) k hk, Option.bind_some, verOf]
  cases ht : tOk l
  · rfl
  · rw [if_pos rfl, if_pos rfl]
    have := i_ver_loop l hl (tabB_all _ _ ht) l.length k 0 0 (by omega) (by omega) hk (by omega) (by omega)
    simpa using this
theorem FnExactTableVersion : laws_FnExactTableVersion.Pure := by
  intro l hl _
  obtain ⟨m, hm, hs⟩ := szS l hl
  refine ⟨l.length + 1, ?_⟩
  simp only [laws_FnExactTableVersion.f, hm, Option.bind_some]
  by_cases h0 : m < 0
  · rw [if_pos h0]
  · rw [if_neg h0]
    have hl' := hs (by omega)
    have hlen : (l.map conv).length = l.length := List.length_map ..
    simp only [toS l hl' _ (Nat.lt_succ_self _), s_ver (l.map conv) (by omega) (l.length + 1) (by omega), i_ver (l.map conv) (by omega) (l.length + 1) (by omega), eqS (l.map conv) (by omega) (l.length + 1) (by omega), Option.bind_some, if_true]
end Go.Proofs.Ytnhalkdfkpebaaa.Pure
