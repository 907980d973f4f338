/- The program's CastOk answers as the reference's, for every list of items, and leaves the list as it is. Conditions: none beyond the row's reach. -/
import Derived.Test.YtjaihhgkcdnhnaaPFnExactCastOkx
set_option linter.unusedVariables false
set_option linter.unusedSimpArgs false
namespace Go.Proofs.Ytjaihhgkcdnhnaa.Pure
open Go.RowKit Go.Proofs.Ytjaihhgkcdnhnaa.PFnExactCastOk Go.Proofs.YtjaihhgkcdnhnaaW.PrintWords Go.Proofs.YtjaihhgkcdnhnaaW.PrintLast Go.Proofs.YtjaihhgkcdnhnaaW.PrintMore
theorem w64 {n : Int} (h : -9223372036854775808 ≤ n) (h' : n ≤ 9223372036854775807) : wrap64 n = n := by unfold wrap64; omega
theorem lt_ge (a b : Int) : a < b ∨ b ≤ a := by omega
/-! ranges -/
theorem s_in (a l h : Int) : spec_l1In.f a l h = some (decide (l ≤ a) && decide (a ≤ h)) := by
  simp only [spec_l1In.f]
  by_cases h1 : a ≥ l
  · rw [if_pos h1, decide_eq_true (show l ≤ a from h1)]; rfl
  · rw [if_neg h1, decide_eq_false (show ¬ l ≤ a from h1)]; rfl
theorem i_in (a l h : Int) : impl_in.f a l h = some (decide (l ≤ a) && decide (a ≤ h)) := by
  simp only [impl_in.f]
  by_cases h1 : a ≥ l
  · rw [if_pos h1, decide_eq_true (show l ≤ a from h1)]; rfl
  · rw [if_neg h1, decide_eq_false (show ¬ l ≤ a from h1)]; rfl
theorem if_some {α : Type} (c : Bool) (x : α) (y z : Bool) : (if c = true then some y else some z : Option Bool) = some (if c = true then y else z) := by cases c <;> rfl
def inB (a l h : Int) : Bool := decide (l ≤ a) && decide (a ≤ h)
def factOk (n i s : Int) : Bool := inB n 0 7 && (inB i 0 999 && inB s 1 4)
theorem s_factOk (a b c : Int) (d : Bool) : spec_FactOk.f a b c d = some (factOk a b c) := by
  simp only [spec_FactOk.f, s_in, Option.bind_some, factOk, inB]
  cases (decide (0 ≤ a) && decide (a ≤ 7)) <;> cases (decide (0 ≤ b) && decide (b ≤ 999)) <;> simp
theorem i_factOk (a b c : Int) (d : Bool) : impl_FactOk.f a b c d = some (factOk a b c) := by
  simp only [impl_FactOk.f, impl_isNode.f, i_in, Option.bind_some, factOk, inB]
  cases (decide (0 ≤ a) && decide (a ≤ 7)) <;> cases (decide (0 ≤ b) && decide (b ≤ 999)) <;> simp
/-! tables: S30 a fact of the program's, S24 the statement's own -/
def fok (x : S30) : Bool := factOk x.f0 x.f1 x.f2
def tabB : Int → List S30 → Bool
  | _, [] => true
  | p, x :: xs => fok x && (decide (p < x.f0) && tabB x.f0 xs)
def prevOf (l : List S30) (n : Nat) : Int := if n = 0 then -1 else (rd_T30 l ((n - 1 : Nat) : Int)).f0
theorem fok_node {x : S30} (h : fok x = true) : 0 ≤ x.f0 ∧ x.f0 ≤ 7 ∧ 0 ≤ x.f1 ∧ x.f1 ≤ 999 ∧ 1 ≤ x.f2 ∧ x.f2 ≤ 4 := by
  simp only [fok, factOk, inB, Bool.and_eq_true, decide_eq_true_eq] at h
  omega
theorem rdF (l : List S30) (n : Nat) (h : n < l.length) : rd_T30 l (n : Int) = l[n] := by
  unfold rd_T30
  rw [Int.toNat_natCast, List.getD_eq_getElem?_getD, List.getElem?_eq_getElem h]; rfl
theorem tabB_step (l : List S30) (n : Nat) (h : n < l.length) : tabB (prevOf l n) (l.drop n) = (fok l[n] && (decide (prevOf l n < l[n].f0) && tabB (prevOf l (n + 1)) (l.drop (n + 1)))) := by
  rw [List.drop_eq_getElem_cons h]
  have e : prevOf l (n + 1) = l[n].f0 := by unfold prevOf; rw [if_neg (by omega), Nat.add_sub_cancel, rdF l n h]
  rw [e]; rfl
theorem i_tab_loop (l : List S30) (hl : l.length ≤ 1000000000000) (d : Nat) : ∀ (k n : Nat), n ≤ l.length → l.length - n = d → d < k → impl_TableOk.l0 k l l (l.length : Int) (n : Int) = some (tabB (prevOf l n) (l.drop n)) := by
  induction d with
  | zero =>
    intro k n h0 h1 h2
    obtain ⟨k, rfl⟩ : ∃ m, k = m + 1 := ⟨k - 1, by omega⟩
    obtain rfl : n = l.length := by omega
    simp only [impl_TableOk.l0]; rw [if_neg (by omega), List.drop_length]; rfl
  | succ d ih =>
    intro k n h0 h1 h2
    obtain ⟨k, rfl⟩ : ∃ m, k = m + 1 := ⟨k - 1, by omega⟩
    have hn : n < l.length := by omega
    have ih' := ih k (n + 1) (by omega) (by omega) (by omega)
    have w1 : wrap64 ((n : Int) + 1) = ((n + 1 : Nat) : Int) := by rw [w64 (by omega) (by omega)]; omega
    rw [tabB_step l n hn]
    simp only [impl_TableOk.l0]
    rw [if_pos (by omega), if_pos (by omega), if_pos (by omega), i_factOk, rdF l n hn, w1, ih']
    simp only [Option.bind_some]
    show (if fok l[n] = true then _ else _) = _
    cases hf : fok l[n]
    · rfl
    · obtain ⟨f0, -⟩ := fok_node hf
      rw [if_pos rfl, Bool.true_and]
      by_cases hz : n = 0
      · subst hz
        rw [if_neg (by omega), decide_eq_true (by unfold prevOf; rw [if_pos rfl]; omega), Bool.true_and]
      · have w2 : wrap64 ((n : Int) - 1) = ((n - 1 : Nat) : Int) := by rw [w64 (by omega) (by omega)]; omega
        have hp : prevOf l n = l[n - 1].f0 := by unfold prevOf; rw [if_neg hz, rdF l (n - 1) (by omega)]
        rw [if_pos (by omega), w2, if_pos (by omega), if_pos (by omega), rdF l (n - 1) (by omega), hp]
        by_cases hlt : l[n - 1].f0 < l[n].f0
        · rw [if_neg (by omega), decide_eq_true hlt, Bool.true_and]
        · rw [if_pos (by omega), decide_eq_false hlt, Bool.false_and]
def tOk (l : List S30) : Bool := tabB (-1) l
theorem i_tab (l : List S30) (hl : l.length ≤ 1000000000000) (k : Nat) (hk : l.length < k) : impl_TableOk.f k l = some (tOk l) := i_tab_loop l hl l.length k 0 (by omega) (by omega) hk
/-! items: S57 an item of the program's, S67 the statement's own -/
def convJ (x : S67) : S57 := ⟨⟨x.f0.f0, x.f0.f1, x.f0.f2, x.f0.f3⟩, x.f1⟩
theorem rdJ (l : List S67) (n : Nat) (h : n < l.length) : rd_T67 l (n : Int) = l[n] := by
  unfold rd_T67
  rw [Int.toNat_natCast, List.getD_eq_getElem?_getD, List.getElem?_eq_getElem h]; rfl
theorem rdI (l : List S57) (n : Nat) (h : n < l.length) : rd_T57 l (n : Int) = l[n] := by
  unfold rd_T57
  rw [Int.toNat_natCast, List.getD_eq_getElem?_getD, List.getElem?_eq_getElem h]; rfl
theorem toIS_loop (l : List S67) (hl : l.length ≤ 1000000000000) (d : Nat) : ∀ (k n : Nat), n ≤ l.length → l.length - n = d → d < k → laws_toItemS.l0 k l ((l.take n).map convJ ++ List.replicate (l.length - n) z57) (n : Int) = some (l.map convJ) := by
  induction d with
  | zero =>
    intro k n h0 h1 h2
    obtain ⟨k, rfl⟩ : ∃ m, k = m + 1 := ⟨k - 1, by omega⟩
    obtain rfl : n = l.length := by omega
    simp only [laws_toItemS.l0]; rw [if_neg (by omega), List.take_length, Nat.sub_self]; simp
  | succ d ih =>
    intro k n h0 h1 h2
    obtain ⟨k, rfl⟩ : ∃ m, k = m + 1 := ⟨k - 1, by omega⟩
    have hn : n < l.length := by omega
    have ih' := ih k (n + 1) (by omega) (by omega) (by omega)
    have w1 : wrap64 ((n : Int) + 1) = ((n + 1 : Nat) : Int) := by rw [w64 (by omega) (by omega)]; omega
    have hlen : ((l.take n).map convJ).length = n := by rw [List.length_map, List.length_take]; omega
    simp only [laws_toItemS.l0]
    rw [if_pos (by omega), if_pos (by omega)]
    simp only [laws_toItem.f, laws_toFact.f, Option.bind_some]
    rw [if_pos (by rw [List.length_append, hlen, List.length_replicate]; omega), w1, rdJ l n hn, Int.toNat_natCast, List.set_append_right (h := by omega), hlen, Nat.sub_self]
    have e : List.replicate (l.length - n) z57 = z57 :: List.replicate (l.length - (n + 1)) z57 := by rw [show l.length - n = (l.length - (n + 1)) + 1 by omega, List.replicate_succ]
    rw [e, List.set_cons_zero]
    have e2 : (l.take (n + 1)).map convJ = (l.take n).map convJ ++ [convJ l[n]] := by rw [List.take_succ_eq_append_getElem hn, List.map_append]; rfl
    rw [e2, List.append_assoc] at ih'
    exact ih'
theorem toIS (l : List S67) (hl : l.length ≤ 1048576) (k : Nat) (hk : l.length < k) : laws_toItemS.f k l = some (l.map convJ) := by
  simp only [laws_toItemS.f, Int.toNat_natCast]
  rw [if_pos (by omega), if_pos (by omega)]
  have := toIS_loop l (by omega) l.length k 0 (by omega) (by omega) hk
  simpa using this
theorem eqItem_self (x : S57) : laws_eqItem.f x.f0.f0 x.f0.f1 x.f0.f2 x.f0.f3 x.f1 x.f0.f0 x.f0.f1 x.f0.f2 x.f0.f3 x.f1 = some true := by
  simp only [laws_eqItem.f, laws_eqFact.f, if_true, bne_self_eq_false, Bool.false_eq_true, if_false, Option.bind_some]
theorem eqIS_loop (l : List S57) (hl : l.length ≤ 1000000000000) (d : Nat) : ∀ (k n : Nat), n ≤ l.length → l.length - n = d → d < k → laws_eqItemS.l0 k l l (n : Int) = some true := by
  induction d with
  | zero =>
    intro k n h0 h1 h2
    obtain ⟨k, rfl⟩ : ∃ m, k = m + 1 := ⟨k - 1, by omega⟩
    simp only [laws_eqItemS.l0]; rw [if_neg (by omega)]
  | succ d ih =>
    intro k n h0 h1 h2
    obtain ⟨k, rfl⟩ : ∃ m, k = m + 1 := ⟨k - 1, by omega⟩
    have ih' := ih k (n + 1) (by omega) (by omega) (by omega)
    have w1 : wrap64 ((n : Int) + 1) = ((n + 1 : Nat) : Int) := by rw [w64 (by omega) (by omega)]; omega
    simp only [laws_eqItemS.l0]
    rw [if_pos (by omega), if_pos (by omega), if_pos (by omega), eqItem_self, w1]
    simp only [Option.bind_some, if_true]
    exact ih'
theorem eqIS (l : List S57) (hl : l.length ≤ 1000000000000) (k : Nat) (hk : l.length < k) : laws_eqItemS.f k l l = some true := by
  simp only [laws_eqItemS.f, if_true]
  exact eqIS_loop l hl l.length k 0 (by omega) (by omega) hk
theorem szIS (l : List S67) (hl : l.length ≤ maxLen) : ∃ m, laws_szItemS.f l 1048576 = some m ∧ (0 ≤ m → l.length ≤ 1048576) := by
  unfold maxLen at hl
  have e : wrap64 (1048576 - (l.length : Int)) = 1048576 - (l.length : Int) := w64 (by omega) (by omega)
  simp only [laws_szItemS.f, e]
  by_cases h : 1048576 - (l.length : Int) < 0
  · rw [if_pos h]; exact ⟨_, rfl, by omega⟩
  · rw [if_neg h]; exact ⟨_, rfl, by omega⟩
def castB : Int → List S57 → Bool
  | _, [] => true
  | p, x :: xs => fok x.f0 && (inB x.f1 1 4 && (decide (p < x.f0.f0) && castB x.f0.f0 xs))
def leftB : List S57 → Bool
  | [] => true
  | x :: xs => inB x.f1 1 4 && leftB xs
theorem castB_eq : ∀ (p : Int) (l : List S57), castB p l = (tabB p (l.map (·.f0)) && leftB l)
  | _, [] => rfl
  | p, x :: xs => by
    simp only [castB, tabB, leftB, List.map_cons, castB_eq x.f0.f0 xs]
    cases fok x.f0 <;> cases inB x.f1 1 4 <;> cases decide (p < x.f0.f0) <;> simp
def prevI (l : List S57) (n : Nat) : Int := if n = 0 then -1 else (rd_T57 l ((n - 1 : Nat) : Int)).f0.f0
theorem castB_step (l : List S57) (n : Nat) (h : n < l.length) : castB (prevI l n) (l.drop n) = (fok l[n].f0 && (inB l[n].f1 1 4 && (decide (prevI l n < l[n].f0.f0) && castB (prevI l (n + 1)) (l.drop (n + 1))))) := by
  rw [List.drop_eq_getElem_cons h]
  have e : prevI l (n + 1) = l[n].f0.f0 := by unfold prevI; rw [if_neg (by omega), Nat.add_sub_cancel, rdI l n h]
  rw [e]; rfl
theorem s_cast_loop (l : List S57) (hl : l.length ≤ 1000000000000) (d : Nat) : ∀ (k n : Nat), n ≤ l.length → l.length - n = d → d < k → spec_CastOk.l0 k l (n : Int) = some (castB (prevI l n) (l.drop n)) := by
  induction d with
  | zero =>
    intro k n h0 h1 h2
    obtain ⟨k, rfl⟩ : ∃ m, k = m + 1 := ⟨k - 1, by omega⟩
    obtain rfl : n = l.length := by omega
    simp only [spec_CastOk.l0]; rw [if_neg (by omega), List.drop_length]; rfl
  | succ d ih =>
    intro k n h0 h1 h2
    obtain ⟨k, rfl⟩ : ∃ m, k = m + 1 := ⟨k - 1, by omega⟩
    have hn : n < l.length := by omega
    have ih' := ih k (n + 1) (by omega) (by omega) (by omega)
    have w1 : wrap64 ((n : Int) + 1) = ((n + 1 : Nat) : Int) := by rw [w64 (by omega) (by omega)]; omega
    rw [castB_step l n hn]
    simp only [spec_CastOk.l0]
    rw [if_pos (by omega), if_pos (by omega), s_factOk, rdI l n hn, w1, ih', s_in]
    simp only [Option.bind_some]
    show (if fok l[n].f0 = true then (if inB l[n].f1 1 4 = true then _ else _) else _) = _
    cases hf : fok l[n].f0
    · rfl
    · obtain ⟨f0, -⟩ := fok_node hf
      rw [if_pos rfl, Bool.true_and]
      cases inB l[n].f1 1 4
      · rfl
      · rw [if_pos rfl, Bool.true_and]
        by_cases hz : n = 0
        · subst hz
          rw [if_neg (by omega), decide_eq_true (by unfold prevI; rw [if_pos rfl]; omega), Bool.true_and]
        · have w2 : wrap64 ((n : Int) - 1) = ((n - 1 : Nat) : Int) := by rw [w64 (by omega) (by omega)]; omega
          have hp : prevI l n = l[n - 1].f0.f0 := by unfold prevI; rw [if_neg hz, rdI l (n - 1) (by omega)]
          rw [if_pos (by omega), w2, if_pos (by omega), if_pos (by omega), rdI l (n - 1) (by omega), hp]
          by_cases hlt : l[n - 1].f0.f0 < l[n].f0.f0
          · rw [if_neg (by omega), decide_eq_true hlt, Bool.true_and]
          · rw [if_pos (by omega), decide_eq_false hlt, Bool.false_and]
theorem i_facts_loop (l : List S57) (hl : l.length ≤ 1000000000000) (d : Nat) : ∀ (k n : Nat) (acc : List S30), acc.length = n → n ≤ l.length → l.length - n = d → d < k → impl_facts.l0 k acc l (l.length : Int) (n : Int) = some (acc ++ (l.drop n).map (·.f0)) := by
  induction d with
  | zero =>
    intro k n acc ha h0 h1 h2
    obtain ⟨k, rfl⟩ : ∃ m, k = m + 1 := ⟨k - 1, by omega⟩
    obtain rfl : n = l.length := by omega
    simp only [impl_facts.l0]; rw [if_neg (by omega), List.drop_length]; simp
  | succ d ih =>
    intro k n acc ha h0 h1 h2
    obtain ⟨k, rfl⟩ : ∃ m, k = m + 1 := ⟨k - 1, by omega⟩
    have hn : n < l.length := by omega
    have w1 : wrap64 ((n : Int) + 1) = ((n + 1 : Nat) : Int) := by rw [w64 (by omega) (by omega)]; omega
    have ih2 := ih k (n + 1) (acc ++ [l[n].f0]) (by rw [List.length_append, List.length_singleton]; omega) (by omega) (by omega) (by omega)
    simp only [impl_facts.l0]
    rw [if_pos (by omega), if_pos (by omega), if_pos (by omega), if_pos (by omega), rdI l n hn, w1, List.drop_eq_getElem_cons hn, List.map_cons]
    refine ih2.trans ?_
    rw [List.append_assoc]; rfl
theorem i_facts (l : List S57) (hl : l.length ≤ 1000000000000) (k : Nat) (hk : l.length < k) : impl_facts.f k l = some (l.map (·.f0)) := by
  have := i_facts_loop l hl l.length k 0 [] rfl (by omega) (by omega) hk
  simpa [impl_facts.f] using this
theorem i_left_loop (l : List S57) (hl : l.length ≤ 1000000000000) (d : Nat) : ∀ (k n : Nat), n ≤ l.length → l.length - n = d → d < k → ∃ t, impl_Item_67.l0 k l (l.length : Int) (n : Int) = some t ∧ decide (t ≥ 0) = !leftB (l.drop n) := by
  induction d with
  | zero =>
    intro k n h0 h1 h2
    obtain ⟨k, rfl⟩ : ∃ m, k = m + 1 := ⟨k - 1, by omega⟩
    obtain rfl : n = l.length := by omega
    simp only [impl_Item_67.l0]; rw [if_neg (by omega), List.drop_length]; exact ⟨_, rfl, rfl⟩
  | succ d ih =>
    intro k n h0 h1 h2
    obtain ⟨k, rfl⟩ : ∃ m, k = m + 1 := ⟨k - 1, by omega⟩
    have hn : n < l.length := by omega
    obtain ⟨t, e1, e2⟩ := ih k (n + 1) (by omega) (by omega) (by omega)
    have w1 : wrap64 ((n : Int) + 1) = ((n + 1 : Nat) : Int) := by rw [w64 (by omega) (by omega)]; omega
    rw [List.drop_eq_getElem_cons hn]
    simp only [impl_Item_67.l0, leftB, impl_CastOk_1.f, i_in, Option.bind_some]
    rw [if_pos (by omega), if_pos (by omega), if_pos (by omega), rdI l n hn, w1, e1]
    show ∃ t_, (if (!inB l[n].f1 1 4) = true then some (n : Int) else some t) = some t_ ∧ _
    cases inB l[n].f1 1 4
    · exact ⟨_, rfl, by rw [Bool.false_and]; exact decide_eq_true (by omega)⟩
    · exact ⟨t, rfl, by rw [Bool.true_and]; exact e2⟩
def cOk (l : List S57) : Bool := castB (-1) l
theorem s_cast (l : List S57) (hl : l.length ≤ 1000000000000) (k : Nat) (hk : l.length < k) : spec_CastOk.f k l = some (cOk l) := s_cast_loop l hl l.length k 0 (by omega) (by omega) hk
theorem i_cast (l : List S57) (hl : l.length ≤ 1000000000000) (k : Nat) (hk : l.length < k) : impl_CastOk.f k l = some (cOk l) := by
  obtain ⟨t, e1, e2⟩ := i_left_loop l hl l.length k 0 (by omega) (by omega) hk
  have hlen : (l.map (·.f0)).length = l.length := List.length_map ..
  have e3 : impl_Item_67.f k l () = some t := e1
  simp only [impl_CastOk.f, i_facts l hl k hk, i_tab (l.map (·.f0)) (by omega) k (by omega), Option.bind_some, impl_Item_52.f, e3, e2, List.drop_zero, Bool.not_not, cOk, castB_eq, tOk]
  cases tabB (-1) (l.map (·.f0)) <;> rfl
theorem FnExactCastOk : laws_FnExactCastOk.Pure := by
  intro l hl _
  obtain ⟨m, hm, hs⟩ := szIS l hl
  refine ⟨l.length + 1, ?_⟩
  simp only [laws_FnExactCastOk.f, hm, Option.bind_some]
  by_cases h0 : m < 0
  · rw [if_pos h0]
  · rw [if_neg h0]
    have hl' := hs (by omega)
    have hlen : (l.map convJ).length = l.length := List.length_map ..
    simp only [toIS l hl' (l.length + 1) (by omega), s_cast (l.map convJ) (by omega) (l.length + 1) (by omega), i_cast (l.map convJ) (by omega) (l.length + 1) (by omega), eqIS (l.map convJ) (by omega) (l.length + 1) (by omega), Option.bind_some, bne_self_eq_false, Bool.false_eq_true, if_false, if_true]
end Go.Proofs.Ytjaihhgkcdnhnaa.Pure
