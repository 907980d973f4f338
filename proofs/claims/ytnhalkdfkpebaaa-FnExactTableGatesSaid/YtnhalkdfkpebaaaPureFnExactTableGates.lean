/- The program's TableGates, which picks the gateways and cuts, answers as the reference's, which walks till it has so many, for every list of facts and every number; its answer is its own memory. Conditions: none beyond the row's reach. -/
import Derived.Test.YtnhalkdfkpebaaaPFnExactTableGatesx
set_option linter.unusedVariables false
set_option linter.unusedSimpArgs false
namespace Go.Proofs.Ytnhalkdfkpebaaa.Pure
open Go.RowKit Go.Proofs.Ytnhalkdfkpebaaa.PFnExactTableGates Go.Proofs.YtnhalkdfkpebaaaW.PrintWords Go.Proofs.YtnhalkdfkpebaaaW.PrintLast Go.Proofs.YtnhalkdfkpebaaaW.PrintMore
theorem w64 {n : Int} (h : -9223372036854775808 ≤ n) (h' : n ≤ 9223372036854775807) : wrap64 n = n := by unfold wrap64; omega
theorem lt_ge (a b : Int) : a < b ∨ b ≤ a := by omega
/-! ranges -/
theorem s_in (a l h : Int) : spec_l1In.f a l h = some (decide (l ≤ a) && decide (a ≤ h)) := by
  simp only [spec_l1In.f]
  by_cases h1 : a ≥ l
  · rw [if_pos h1, decide_eq_true (show l ≤ a from h1)]; rfl
  · rw [if_neg h1, decide_eq_false (show ¬ l ≤ a from h1)]; rfl
theorem i_in (a l h : Int) : impl_in.f a l h = some (decide (l ≤ a) && decide (a ≤ h)) := by
  simp only [impl_in.f]
  by_cases h1 : a ≥ l
  · rw [if_pos h1, decide_eq_true (show l ≤ a from h1)]; rfl
  · rw [if_neg h1, decide_eq_false (show ¬ l ≤ a from h1)]; rfl
theorem if_some {α : Type} (c : Bool) (x : α) (y z : Bool) : (if c = true then some y else some z : Option Bool) = some (if c = true then y else z) := by cases c <;> rfl
def inB (a l h : Int) : Bool := decide (l ≤ a) && decide (a ≤ h)
def factOk (n i s : Int) : Bool := inB n 0 7 && (inB i 0 999 && inB s 1 4)
theorem s_factOk (a b c : Int) (d : Bool) : spec_FactOk.f a b c d = some (factOk a b c) := by
  simp only [spec_FactOk.f, s_in, Option.bind_some, factOk, inB]
  cases (decide (0 ≤ a) && decide (a ≤ 7)) <;> cases (decide (0 ≤ b) && decide (b ≤ 999)) <;> simp
theorem i_factOk (a b c : Int) (d : Bool) : impl_FactOk.f a b c d = some (factOk a b c) := by
  simp only [impl_FactOk.f, impl_isNode.f, i_in, Option.bind_some, factOk, inB]
  cases (decide (0 ≤ a) && decide (a ≤ 7)) <;> cases (decide (0 ≤ b) && decide (b ≤ 999)) <;> simp
/-! tables: S32 a fact of the program's, S30 the statement's own -/
def fok (x : S32) : Bool := factOk x.f0 x.f1 x.f2
def tabB : Int → List S32 → Bool
  | _, [] => true
  | p, x :: xs => fok x && (decide (p < x.f0) && tabB x.f0 xs)
def prevOf (l : List S32) (n : Nat) : Int := if n = 0 then -1 else (rd_T32 l ((n - 1 : Nat) : Int)).f0
theorem fok_node {x : S32} (h : fok x = true) : 0 ≤ x.f0 ∧ x.f0 ≤ 7 ∧ 0 ≤ x.f1 ∧ x.f1 ≤ 999 ∧ 1 ≤ x.f2 ∧ x.f2 ≤ 4 := by
  simp only [fok, factOk, inB, Bool.and_eq_true, decide_eq_true_eq] at h
  omega
theorem rdF (l : List S32) (n : Nat) (h : n < l.length) : rd_T32 l (n : Int) = l[n] := by
  unfold rd_T32
  rw [Int.toNat_natCast, List.getD_eq_getElem?_getD, List.getElem?_eq_getElem h]; rfl
theorem tabB_step (l : List S32) (n : Nat) (h : n < l.length) : tabB (prevOf l n) (l.drop n) = (fok l[n] && (decide (prevOf l n < l[n].f0) && tabB (prevOf l (n + 1)) (l.drop (n + 1)))) := by
  rw [List.drop_eq_getElem_cons h]
  have e : prevOf l (n + 1) = l[n].f0 := by unfold prevOf; rw [if_neg (by omega), Nat.add_sub_cancel, rdF l n h]
  rw [e]; rfl
theorem s_tab_loop (l : List S32) (hl : l.length ≤ 1000000000000) (d : Nat) : ∀ (k n : Nat), n ≤ l.length → l.length - n = d → d < k → spec_TableOk.l0 k l (n : Int) = some (tabB (prevOf l n) (l.drop n)) := by
  induction d with
  | zero =>
    intro k n h0 h1 h2
    obtain ⟨k, rfl⟩ : ∃ m, k = m + 1 := ⟨k - 1, by omega⟩
    obtain rfl : n = l.length := by omega
    simp only [spec_TableOk.l0]; rw [if_neg (by omega), List.drop_length]; rfl
  | succ d ih =>
    intro k n h0 h1 h2
    obtain ⟨k, rfl⟩ : ∃ m, k = m + 1 := ⟨k - 1, by omega⟩
    have hn : n < l.length := by omega
    have ih' := ih k (n + 1) (by omega) (by omega) (by omega)
    have w1 : wrap64 ((n : Int) + 1) = ((n + 1 : Nat) : Int) := by rw [w64 (by omega) (by omega)]; omega
    rw [tabB_step l n hn]
    simp only [spec_TableOk.l0]
    rw [if_pos (by omega), if_pos (by omega), s_factOk, rdF l n hn, w1, ih']
    simp only [Option.bind_some]
    show (if fok l[n] = true then _ else _) = _
    cases hf : fok l[n]
    · rfl
    · obtain ⟨f0, -⟩ := fok_node hf
      rw [if_pos rfl, Bool.true_and]
      by_cases hz : n = 0
      · subst hz
        rw [if_neg (by omega), decide_eq_true (by unfold prevOf; rw [if_pos rfl]; omega), Bool.true_and]
      · have w2 : wrap64 ((n : Int) - 1) = ((n - 1 : Nat) : Int) := by rw [w64 (by omega) (by omega)]; omega
        have hp : prevOf l n = l[n - 1].f0 := by unfold prevOf; rw [if_neg hz, rdF l (n - 1) (by omega)]
        rw [if_pos (by omega), w2, if_pos (by omega), if_pos (by omega), rdF l (n - 1) (by omega), hp]
        by_cases hlt : l[n - 1].f0 < l[n].f0
        · rw [if_neg (by omega), decide_eq_true hlt, Bool.true_and]
        · rw [if_pos (by omega), decide_eq_false hlt, Bool.false_and]
theorem i_tab_loop (l : List S32) (hl : l.length ≤ 1000000000000) (d : Nat) : ∀ (k n : Nat), n ≤ l.length → l.length - n = d → d < k → impl_TableOk.l0 k l l (l.length : Int) (n : Int) = some (tabB (prevOf l n) (l.drop n)) := by
  induction d with
  | zero =>
    intro k n h0 h1 h2
    obtain ⟨k, rfl⟩ : ∃ m, k = m + 1 := ⟨k - 1, by omega⟩
    obtain rfl : n = l.length := by omega
    simp only [impl_TableOk.l0]; rw [if_neg (by omega), List.drop_length]; rfl
  | succ d ih =>
    intro k n h0 h1 h2
    obtain ⟨k, rfl⟩ : ∃ m, k = m + 1 := ⟨k - 1, by omega⟩
    have hn : n < l.length := by omega
    have ih' := ih k (n + 1) (by omega) (by omega) (by omega)
    have w1 : wrap64 ((n : Int) + 1) = ((n + 1 : Nat) : Int) := by rw [w64 (by omega) (by omega)]; omega
    rw [tabB_step l n hn]
    simp only [impl_TableOk.l0]
    rw [if_pos (by omega), if_pos (by omega), if_pos (by omega), i_factOk, rdF l n hn, w1, ih']
    simp only [Option.bind_some]
    show (if fok l[n] = true then _ else _) = _
    cases hf : fok l[n]
    · rfl
    · obtain ⟨f0, -⟩ := fok_node hf
      rw [if_pos rfl, Bool.true_and]
      by_cases hz : n = 0
      · subst hz
        rw [if_neg (by omega), decide_eq_true (by unfold prevOf; rw [if_pos rfl]; omega), Bool.true_and]
      · have w2 : wrap64 ((n : Int) - 1) = ((n - 1 : Nat) : Int) := by rw [w64 (by omega) (by omega)]; omega
        have hp : prevOf l n = l[n - 1].f0 := by unfold prevOf; rw [if_neg hz, rdF l (n - 1) (by omega)]
        rw [if_pos (by omega), w2, if_pos (by omega), if_pos (by omega), rdF l (n - 1) (by omega), hp]
        by_cases hlt : l[n - 1].f0 < l[n].f0
        · rw [if_neg (by omega), decide_eq_true hlt, Bool.true_and]
        · rw [if_pos (by omega), decide_eq_false hlt, Bool.false_and]
def tOk (l : List S32) : Bool := tabB (-1) l
theorem s_tab (l : List S32) (hl : l.length ≤ 1000000000000) (k : Nat) (hk : l.length < k) : spec_TableOk.f k l = some (tOk l) := s_tab_loop l hl l.length k 0 (by omega) (by omega) hk
theorem i_tab (l : List S32) (hl : l.length ≤ 1000000000000) (k : Nat) (hk : l.length < k) : impl_TableOk.f k l = some (tOk l) := i_tab_loop l hl l.length k 0 (by omega) (by omega) hk
def conv (x : S30) : S32 := ⟨x.f0, x.f1, x.f2, x.f3⟩
theorem rdL (l : List S30) (n : Nat) (h : n < l.length) : rd_T30 l (n : Int) = l[n] := by
  unfold rd_T30
  rw [Int.toNat_natCast, List.getD_eq_getElem?_getD, List.getElem?_eq_getElem h]; rfl
theorem toS_loop (l : List S30) (hl : l.length ≤ 1000000000000) (d : Nat) : ∀ (k n : Nat), n ≤ l.length → l.length - n = d → d < k → laws_toFactS.l0 k l ((l.take n).map conv ++ List.replicate (l.length - n) z32) (n : Int) = some (l.map conv) := by
  induction d with
  | zero =>
    intro k n h0 h1 h2
    obtain ⟨k, rfl⟩ : ∃ m, k = m + 1 := ⟨k - 1, by omega⟩
    obtain rfl : n = l.length := by omega
    simp only [laws_toFactS.l0]; rw [if_neg (by omega), List.take_length, Nat.sub_self]; simp
  | succ d ih =>
    intro k n h0 h1 h2
    obtain ⟨k, rfl⟩ : ∃ m, k = m + 1 := ⟨k - 1, by omega⟩
    have hn : n < l.length := by omega
    have ih' := ih k (n + 1) (by omega) (by omega) (by omega)
    have w1 : wrap64 ((n : Int) + 1) = ((n + 1 : Nat) : Int) := by rw [w64 (by omega) (by omega)]; omega
    have hlen : ((l.take n).map conv).length = n := by rw [List.length_map, List.length_take]; omega
    simp only [laws_toFactS.l0]
    rw [if_pos (by omega), if_pos (by omega)]
    simp only [laws_toFact.f, Option.bind_some]
    rw [if_pos (by rw [List.length_append, hlen, List.length_replicate]; omega), w1, rdL l n hn, Int.toNat_natCast, List.set_append_right (h := by omega), hlen, Nat.sub_self]
    have e : List.replicate (l.length - n) z32 = z32 :: List.replicate (l.length - (n + 1)) z32 := by rw [show l.length - n = (l.length - (n + 1)) + 1 by omega, List.replicate_succ]
    rw [e, List.set_cons_zero]
    have e2 : (l.take (n + 1)).map conv = (l.take n).map conv ++ [conv l[n]] := by rw [List.take_succ_eq_append_getElem hn, List.map_append]; rfl
    rw [e2, List.append_assoc] at ih'
    exact ih'
theorem toS (l : List S30) (hl : l.length ≤ 1048576) (k : Nat) (hk : l.length < k) : laws_toFactS.f k l = some (l.map conv) := by
  simp only [laws_toFactS.f, Int.toNat_natCast]
  rw [if_pos (by omega), if_pos (by omega)]
  have := toS_loop l (by omega) l.length k 0 (by omega) (by omega) hk
  simpa using this
theorem eqFact_self (x : S32) : laws_eqFact.f x.f0 x.f1 x.f2 x.f3 x.f0 x.f1 x.f2 x.f3 = some true := by
  simp only [laws_eqFact.f, if_true, bne_self_eq_false, Bool.false_eq_true, if_false]
theorem eqS_loop (l : List S32) (hl : l.length ≤ 1000000000000) (d : Nat) : ∀ (k n : Nat), n ≤ l.length → l.length - n = d → d < k → laws_eqFactS.l0 k l l (n : Int) = some true := by
  induction d with
  | zero =>
    intro k n h0 h1 h2
    obtain ⟨k, rfl⟩ : ∃ m, k = m + 1 := ⟨k - 1, by omega⟩
    simp only [laws_eqFactS.l0]; rw [if_neg (by omega)]
  | succ d ih =>
    intro k n h0 h1 h2
    obtain ⟨k, rfl⟩ : ∃ m, k = m + 1 := ⟨k - 1, by omega⟩
    have ih' := ih k (n + 1) (by omega) (by omega) (by omega)
    have w1 : wrap64 ((n : Int) + 1) = ((n + 1 : Nat) : Int) := by rw [w64 (by omega) (by omega)]; omega
    simp only [laws_eqFactS.l0]
    rw [if_pos (by omega), if_pos (by omega), if_pos (by omega), eqFact_self, w1]
    simp only [Option.bind_some, if_true]
    exact ih'
theorem eqS (l : List S32) (hl : l.length ≤ 1000000000000) (k : Nat) (hk : l.length < k) : laws_eqFactS.f k l l = some true := by
  simp only [laws_eqFactS.f, if_true]
  exact eqS_loop l hl l.length k 0 (by omega) (by omega) hk
theorem szS (l : List S30) (hl : l.length ≤ maxLen) : ∃ m, laws_szFactS.f l 1048576 = some m ∧ (0 ≤ m → l.length ≤ 1048576) := by
  unfold maxLen at hl
  have e : wrap64 (1048576 - (l.length : Int)) = 1048576 - (l.length : Int) := w64 (by omega) (by omega)
  simp only [laws_szFactS.f, e]
  by_cases h : 1048576 - (l.length : Int) < 0
  · rw [if_pos h]; exact ⟨_, rfl, by omega⟩
  · rw [if_neg h]; exact ⟨_, rfl, by omega⟩
/-! rows of whole numbers: told apart, marked, held -/
theorem rdN (l : List Int) (i : Nat) (h : i < l.length) : rd l (i : Int) = l[i] := by
  unfold rd
  rw [Int.toNat_natCast, List.getD_eq_getElem?_getD, List.getElem?_eq_getElem h]; rfl
theorem eqI_loop (l : List Int) (hl : l.length ≤ 1000000000000) (d : Nat) : ∀ (k n : Nat), n ≤ l.length → l.length - n = d → d < k → laws_eqIntS.l0 k l l (n : Int) = some true := by
  induction d with
  | zero =>
    intro k n h0 h1 h2
    obtain ⟨k, rfl⟩ : ∃ m, k = m + 1 := ⟨k - 1, by omega⟩
    simp only [laws_eqIntS.l0]; rw [if_neg (by omega)]
  | succ d ih =>
    intro k n h0 h1 h2
    obtain ⟨k, rfl⟩ : ∃ m, k = m + 1 := ⟨k - 1, by omega⟩
    have ih' := ih k (n + 1) (by omega) (by omega) (by omega)
    have w1 : wrap64 ((n : Int) + 1) = ((n + 1 : Nat) : Int) := by rw [w64 (by omega) (by omega)]; omega
    simp only [laws_eqIntS.l0]
    rw [if_pos (by omega), if_pos (by omega), if_pos (by omega), if_pos trivial, w1]
    exact ih'
theorem eqI (l : List Int) (hl : l.length ≤ 1000000000000) (k : Nat) (hk : l.length < k) : laws_eqIntS.f k l l = some true := by
  simp only [laws_eqIntS.f, if_true]
  exact eqI_loop l hl l.length k 0 (by omega) (by omega) hk
def seqI (a : Int) : Nat → List Int
  | 0 => []
  | m + 1 => a :: seqI (a + 1) m
theorem seqI_length : ∀ (m : Nat) (a : Int), (seqI a m).length = m
  | 0, _ => rfl
  | m + 1, a => by simp only [seqI, List.length_cons, seqI_length m (a + 1)]
theorem markI_loop (d : Nat) : ∀ (k n : Nat) (l : List Int) (a : Int), l.length ≤ 1000000000000 → 0 ≤ a → a ≤ 1000000000000 + n → n ≤ l.length → l.length - n = d → d < k → laws_markIntS.l0 k l a (n : Int) = some (a + (d : Int), l.take n ++ seqI a d) := by
  induction d with
  | zero =>
    intro k n l a hl ha ha' h0 h1 h2
    obtain ⟨k, rfl⟩ : ∃ m, k = m + 1 := ⟨k - 1, by omega⟩
    obtain rfl : n = l.length := by omega
    simp only [laws_markIntS.l0]; rw [if_neg (by omega), List.take_length]; simp [seqI]
  | succ d ih =>
    intro k n l a hl ha ha' h0 h1 h2
    obtain ⟨k, rfl⟩ : ∃ m, k = m + 1 := ⟨k - 1, by omega⟩
    have hn : n < l.length := by omega
    have ih' := ih k (n + 1) (l.set n a) (a + 1) (by rw [List.length_set]; omega) (by omega) (by omega) (by rw [List.length_set]; omega) (by rw [List.length_set]; omega) (by omega)
    have w1 : wrap64 ((n : Int) + 1) = ((n + 1 : Nat) : Int) := by rw [w64 (by omega) (by omega)]; omega
    have w2 : wrap64 (a + 1) = a + 1 := w64 (by omega) (by omega)
    simp only [laws_markIntS.l0]
    rw [if_pos (by omega), if_pos (by omega), w1, w2, Int.toNat_natCast, ih']
    have e : (l.set n a).take (n + 1) = l.take n ++ [a] := by
      rw [List.take_succ_eq_append_getElem (by rw [List.length_set]; exact hn), List.take_set_of_le (Nat.le_refl _), List.getElem_set_self]
    rw [e]
    simp only [seqI, List.append_assoc, List.singleton_append]
    congr 2
    omega
theorem markI (l : List Int) (hl : l.length ≤ 1000000000000) (k : Nat) (hk : l.length < k) : laws_markIntS.f k l 1 = some (1 + (l.length : Int), seqI 1 l.length) := by
  have := markI_loop l.length k 0 l 1 hl (by omega) (by omega) (by omega) (by omega) hk
  simpa [laws_markIntS.f] using this
theorem heldI_loop (d : Nat) : ∀ (k n : Nat) (l : List Int) (a : Int), l.length ≤ 1000000000000 → 0 ≤ a → a ≤ 1000000000000 + n → n ≤ l.length → l.length - n = d → l.drop n = seqI a d → d < k → laws_heldIntS.l0 k l a (n : Int) = some (a + (d : Int)) := by
  induction d with
  | zero =>
    intro k n l a hl ha ha' h0 h1 h2 h3
    obtain ⟨k, rfl⟩ : ∃ m, k = m + 1 := ⟨k - 1, by omega⟩
    simp only [laws_heldIntS.l0]; rw [if_neg (by omega)]; simp
  | succ d ih =>
    intro k n l a hl ha ha' h0 h1 h2 h3
    obtain ⟨k, rfl⟩ : ∃ m, k = m + 1 := ⟨k - 1, by omega⟩
    have hn : n < l.length := by omega
    rw [List.drop_eq_getElem_cons hn] at h2
    simp only [seqI, List.cons.injEq] at h2
    have ih' := ih k (n + 1) l (a + 1) hl (by omega) (by omega) (by omega) (by omega) h2.2 (by omega)
    have w1 : wrap64 ((n : Int) + 1) = ((n + 1 : Nat) : Int) := by rw [w64 (by omega) (by omega)]; omega
    have w2 : wrap64 (a + 1) = a + 1 := w64 (by omega) (by omega)
    simp only [laws_heldIntS.l0]
    rw [if_pos (by omega), if_pos (by omega), rdN l n hn, if_pos h2.1, w1, w2, ih']
    congr 1
    omega
theorem heldI (m : Nat) (hm : m ≤ 1000000000000) (k : Nat) (hk : m < k) : laws_heldIntS.f k (seqI 1 m) 1 = some (1 + (m : Int)) := by
  have hl := seqI_length m 1
  exact heldI_loop m k 0 (seqI 1 m) 1 (by omega) (by omega) (by omega) (by omega) (by omega) rfl hk
theorem markF_loop (d : Nat) : ∀ (k n : Nat) (l : List S32) (a : Int), l.length ≤ 1000000000000 → 0 ≤ a → a ≤ 1000000000000 + 4 * n → n ≤ l.length → l.length - n = d → d < k → ∃ m y, laws_markFactS.l0 k l a (n : Int) = some (m, y) ∧ 0 ≤ m := by
  induction d with
  | zero =>
    intro k n l a hl ha ha' h0 h1 h2
    obtain ⟨k, rfl⟩ : ∃ m, k = m + 1 := ⟨k - 1, by omega⟩
    simp only [laws_markFactS.l0]; rw [if_neg (by omega)]; exact ⟨_, _, rfl, ha⟩
  | succ d ih =>
    intro k n l a hl ha ha' h0 h1 h2
    obtain ⟨k, rfl⟩ : ∃ m, k = m + 1 := ⟨k - 1, by omega⟩
    have hn : n < l.length := by omega
    have w1 : wrap64 ((n : Int) + 1) = ((n + 1 : Nat) : Int) := by rw [w64 (by omega) (by omega)]; omega
    have w2 : wrap64 (a + 1) = a + 1 := w64 (by omega) (by omega)
    have w3 : wrap64 (a + 1 + 1) = a + 2 := by rw [w64 (by omega) (by omega)]; omega
    have w4 : wrap64 (a + 2 + 1) = a + 3 := by rw [w64 (by omega) (by omega)]; omega
    have w5 : wrap64 (a + 3 + 1) = a + 4 := by rw [w64 (by omega) (by omega)]; omega
    simp only [laws_markFactS.l0, Option.bind_some, w2, w3, w4, w5, w1]
    rw [if_pos (by omega), if_pos (by omega)]
    exact ih k (n + 1) _ (a + 4) (by simp only [List.length_set]; omega) (by omega) (by omega) (by simp only [List.length_set]; omega) (by simp only [List.length_set]; omega) (by omega)
theorem markF (l : List S32) (hl : l.length ≤ 1000000000000) (k : Nat) (hk : l.length < k) : ∃ m y, laws_markFactS.f k l 1 = some (m, y) ∧ 0 ≤ m := markF_loop l.length k 0 l 1 hl (by omega) (by omega) (by omega) (by omega) hk
def gt (x : S32) : Bool := x.f3 && (x.f2 == 1)
def gatesL : List S32 → List Int
  | [] => []
  | x :: xs => if gt x = true then x.f0 :: gatesL xs else gatesL xs
theorem gatesL_length : ∀ l : List S32, (gatesL l).length ≤ l.length
  | [] => Nat.le_refl _
  | x :: xs => by
    have := gatesL_length xs
    simp only [gatesL]; split
    · simp only [List.length_cons]; omega
    · simp only [List.length_cons]; omega
theorem s_gates_loop (l : List S32) (N : Int) (hl : l.length ≤ 1000000000000) (d : Nat) : ∀ (k n : Nat) (acc : List Int), acc.length ≤ n → n ≤ l.length → l.length - n = d → 2 * d + 1 < k → spec_l3Gates.l0 k l N acc (n : Int) = some (acc ++ (gatesL (l.drop n)).take (N.toNat - acc.length)) := by
  induction d with
  | zero =>
    intro k n acc ha h0 h1 h2
    obtain ⟨k, rfl⟩ : ∃ m, k = m + 2 := ⟨k - 2, by omega⟩
    obtain rfl : n = l.length := by omega
    simp only [spec_l3Gates.l0]; rw [if_neg (by omega)]
    simp only [spec_l3Gates.j1]; rw [if_neg (by decide), List.drop_length]; simp [gatesL]
  | succ d ih =>
    intro k n acc ha h0 h1 h2
    obtain ⟨k, rfl⟩ : ∃ m, k = m + 2 := ⟨k - 2, by omega⟩
    have hn : n < l.length := by omega
    have w1 : wrap64 ((n : Int) + 1) = ((n + 1 : Nat) : Int) := by rw [w64 (by omega) (by omega)]; omega
    simp only [spec_l3Gates.l0]; rw [if_pos (by omega)]
    simp only [spec_l3Gates.j1]
    by_cases hN : (acc.length : Int) < N
    · rw [if_pos (decide_eq_true hN), if_pos (by omega), if_pos (by omega), rdF l n hn, w1, List.drop_eq_getElem_cons hn]
      have ih1 := ih k (n + 1) acc (by omega) (by omega) (by omega) (by omega)
      cases hf : l[n].f3
      · have hg : gt l[n] = false := by unfold gt; rw [hf]; rfl
        rw [if_neg (by decide), ih1]; simp only [gatesL, hg, Bool.false_eq_true, if_false]
      · rw [if_pos rfl]
        by_cases h2' : l[n].f2 = 1
        · have hg : gt l[n] = true := by unfold gt; rw [hf, h2']; rfl
          have ih2 := ih k (n + 1) (acc ++ [l[n].f0]) (by rw [List.length_append, List.length_singleton]; omega) (by omega) (by omega) (by omega)
          rw [if_pos h2', if_pos (by omega), ih2]
          simp only [gatesL, hg, if_true]
          have e : N.toNat - acc.length = (N.toNat - (acc ++ [l[n].f0]).length) + 1 := by rw [List.length_append, List.length_singleton]; omega
          rw [e, List.take_succ_cons, List.append_assoc]; rfl
        · have hg : gt l[n] = false := by unfold gt; rw [hf, beq_eq_false_iff_ne.2 h2']; rfl
          rw [if_neg h2', ih1]; simp only [gatesL, hg, Bool.false_eq_true, if_false]
    · rw [if_neg (by rw [decide_eq_false hN]; decide), show N.toNat - acc.length = 0 by omega]; simp
theorem i_nodes_loop (l : List S32) (hl : l.length ≤ 1000000000000) (d : Nat) : ∀ (k n : Nat) (acc : List Int), acc.length ≤ n → n ≤ l.length → l.length - n = d → d < k → impl_nodes.l0 k acc l (l.length : Int) (n : Int) = some (acc ++ gatesL (l.drop n)) := by
  induction d with
  | zero =>
    intro k n acc ha h0 h1 h2
    obtain ⟨k, rfl⟩ : ∃ m, k = m + 1 := ⟨k - 1, by omega⟩
    obtain rfl : n = l.length := by omega
    simp only [impl_nodes.l0]; rw [if_neg (by omega), List.drop_length]; simp [gatesL]
  | succ d ih =>
    intro k n acc ha h0 h1 h2
    obtain ⟨k, rfl⟩ : ∃ m, k = m + 1 := ⟨k - 1, by omega⟩
    have hn : n < l.length := by omega
    have w1 : wrap64 ((n : Int) + 1) = ((n + 1 : Nat) : Int) := by rw [w64 (by omega) (by omega)]; omega
    have ih1 := ih k (n + 1) acc (by omega) (by omega) (by omega) (by omega)
    have ih2 := ih k (n + 1) (acc ++ [l[n].f0]) (by rw [List.length_append, List.length_singleton]; omega) (by omega) (by omega) (by omega)
    simp only [impl_nodes.l0]
    rw [if_pos (by omega), if_pos (by omega), if_pos (by omega), rdF l n hn, w1, List.drop_eq_getElem_cons hn]
    have e : impl_TableGates_1.f l[n].f0 l[n].f1 l[n].f2 l[n].f3 = some (gt l[n]) := by
      simp only [impl_TableGates_1.f, gt]; cases l[n].f3 <;> rfl
    rw [e]
    simp only [Option.bind_some]
    cases hg : gt l[n]
    · rw [if_neg (by decide), ih1]; simp only [gatesL, hg, Bool.false_eq_true, if_false]
    · rw [if_pos rfl, if_pos (by omega), ih2]; simp only [gatesL, hg, if_true, List.append_assoc]; rfl
def gatesOf (l : List S32) (N : Int) : List Int := if tOk l = true then (gatesL l).take N.toNat else []
theorem gatesOf_length (l : List S32) (N : Int) : (gatesOf l N).length ≤ l.length := by
  have := gatesL_length l
  unfold gatesOf; split
  · rw [List.length_take]; omega
  · exact Nat.zero_le _
theorem s_gates (l : List S32) (N : Int) (hl : l.length ≤ 1000000000000) (k : Nat) (hk : 2 * l.length + 1 < k) : spec_TableGates.f k l N = some (gatesOf l N) := by
  simp only [spec_TableGates.f, s_tab l hl k (by omega), Option.bind_some, gatesOf]
  by_cases h : tOk l = true
  · rw [if_pos h, if_pos h]
    have := s_gates_loop l N hl l.length k 0 [] (Nat.le_refl _) (by omega) (by omega) hk
    simp only [spec_l3Gates.f]
    rw [show ((0 : Int)) = ((0 : Nat) : Int) from rfl, this]; simp
  · rw [if_neg h, if_neg h]
theorem clampN (N : Int) (m : Nat) : 0 ≤ mx 0 (mn N (m : Int)) ∧ mx 0 (mn N (m : Int)) ≤ (m : Int) ∧ (mx 0 (mn N (m : Int))).toNat = min N.toNat m := by
  unfold mx mn
  by_cases h1 : (m : Int) < N
  · rw [if_pos h1]; split <;> omega
  · rw [if_neg h1]; split <;> omega
theorem i_gates (l : List S32) (N : Int) (hl : l.length ≤ 1000000000000) (k : Nat) (hk : l.length < k) : impl_TableGates.f k l N = some (gatesOf l N) := by
  simp only [impl_TableGates.f, i_tab l hl k (by omega), Option.bind_some, gatesOf]
  by_cases h : tOk l = true
  · rw [if_pos h, if_pos h]
    have h1 := i_nodes_loop l hl l.length k 0 [] (Nat.le_refl _) (by omega) (by omega) hk
    have h2 : impl_nodes.f k l () = some (gatesL l) := by
      simp only [impl_nodes.f]; rw [show ((0 : Int)) = ((0 : Nat) : Int) from rfl, h1]; simp
    obtain ⟨c1, c2, c3⟩ := clampN N (gatesL l).length
    have hL := gatesL_length l
    have hT : ((gatesL l).take (mx 0 (mn N ((gatesL l).length : Int))).toNat) = (gatesL l).take N.toNat := by
      rw [c3]; simp [List.take_eq_take_iff]
    simp only [h2, Option.bind_some, impl_first.f, impl_clamp.f]
    rw [if_pos c1, if_pos c2, hT]
    simp only [slices_Clone_int_int.f, Option.bind_some, List.length_nil, List.nil_append]
    rw [if_pos (by rw [List.length_take]; omega)]
    rfl
  · rw [if_neg h, if_neg h]
theorem FnExactTableGates : laws_FnExactTableGates.Pure := by
  intro l a hl _ _
  obtain ⟨m, hm, hs⟩ := szS l hl
  refine ⟨2 * l.length + 3, ?_⟩
  simp only [laws_FnExactTableGates.f, hm, Option.bind_some]
  by_cases h0 : m < 0
  · rw [if_pos h0]
  · rw [if_neg h0]
    have hl' := hs (by omega)
    have hlen : (l.map conv).length = l.length := List.length_map ..
    have hG := gatesOf_length (l.map conv) a
    obtain ⟨q, y, hq, hq0⟩ := markF (l.map conv) (by omega) (2 * l.length + 3) (by omega)
    simp only [toS l hl' (2 * l.length + 3) (by omega), s_gates (l.map conv) a (by omega) (2 * l.length + 3) (by omega), i_gates (l.map conv) a (by omega) (2 * l.length + 3) (by omega), eqS (l.map conv) (by omega) (2 * l.length + 3) (by omega), Option.bind_some, hq, if_true]
    generalize hg : gatesOf (l.map conv) a = g at hG
    simp only [eqI g (by omega) (2 * l.length + 3) (by omega), Option.bind_some, if_true]
    rw [if_neg (by omega)]
    simp only [laws_FnExactTableGates.j0, Bool.not_true, Bool.false_eq_true, if_false, markI g (by omega) (2 * l.length + 2) (by omega), heldI g.length (by omega) (2 * l.length + 2) (by omega), Option.bind_some, toS l hl' (2 * l.length + 2) (by omega), i_gates (l.map conv) a (by omega) (2 * l.length + 2) (by omega), hg, eqI g (by omega) (2 * l.length + 2) (by omega), if_true]
    rw [if_neg (by omega), if_neg (by omega)]
end Go.Proofs.Ytnhalkdfkpebaaa.Pure
