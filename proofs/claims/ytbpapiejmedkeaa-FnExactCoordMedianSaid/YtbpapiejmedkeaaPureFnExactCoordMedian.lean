/- The program's CoordMedian, which sorts the last trips, answers as the reference's, which inserts them one by one, for every list of trips, and leaves the list as it is. Conditions: none beyond the row's reach. -/
import Derived.Test.YtbpapiejmedkeaaPFnExactCoordMedianx
set_option linter.unusedVariables false
set_option linter.unusedSimpArgs false
namespace Go.Proofs.Ytbpapiejmedkeaa.Pure
open Go.RowKit Go.Proofs.Ytbpapiejmedkeaa.PFnExactCoordMedian Go.Proofs.YtbpapiejmedkeaaW.PrintWords Go.Proofs.YtbpapiejmedkeaaW.PrintLast Go.Proofs.YtbpapiejmedkeaaW.PrintMore
theorem w64 {n : Int} (h : -9223372036854775808 ≤ n) (h' : n ≤ 9223372036854775807) : wrap64 n = n := by unfold wrap64; omega
theorem lt_ge (a b : Int) : a < b ∨ b ≤ a := by omega
/-! rows of whole numbers: told apart, marked, held -/
theorem rdN (l : List Int) (i : Nat) (h : i < l.length) : rd l (i : Int) = l[i] := by
  unfold rd
  rw [Int.toNat_natCast, List.getD_eq_getElem?_getD, List.getElem?_eq_getElem h]; rfl
theorem eqI_loop (l : List Int) (hl : l.length ≤ 1000000000000) (d : Nat) : ∀ (k n : Nat), n ≤ l.length → l.length - n = d → d < k → laws_eqIntS.l0 k l l (n : Int) = some true := by
  induction d with
  | zero =>
    intro k n h0 h1 h2
    obtain ⟨k, rfl⟩ : ∃ m, k = m + 1 := ⟨k - 1, by omega⟩
    simp only [laws_eqIntS.l0]; rw [if_neg (by omega)]
  | succ d ih =>
    intro k n h0 h1 h2
    obtain ⟨k, rfl⟩ : ∃ m, k = m + 1 := ⟨k - 1, by omega⟩
    have ih' := ih k (n + 1) (by omega) (by omega) (by omega)
    have w1 : wrap64 ((n : Int) + 1) = ((n + 1 : Nat) : Int) := by rw [w64 (by omega) (by omega)]; omega
    simp only [laws_eqIntS.l0]
    rw [if_pos (by omega), if_pos (by omega), if_pos (by omega), if_pos trivial, w1]
    exact ih'
theorem eqI (l : List Int) (hl : l.length ≤ 1000000000000) (k : Nat) (hk : l.length < k) : laws_eqIntS.f k l l = some true := by
  simp only [laws_eqIntS.f, if_true]
  exact eqI_loop l hl l.length k 0 (by omega) (by omega) hk
theorem toI_loop (l : List Int) (hl : l.length ≤ 1000000000000) (d : Nat) : ∀ (k n : Nat), n ≤ l.length → l.length - n = d → d < k → laws_toIntS.l0 k l (l.take n ++ List.replicate (l.length - n) 0) (n : Int) = some l := by
  induction d with
  | zero =>
    intro k n h0 h1 h2
    obtain ⟨k, rfl⟩ : ∃ m, k = m + 1 := ⟨k - 1, by omega⟩
    obtain rfl : n = l.length := by omega
    simp only [laws_toIntS.l0]; rw [if_neg (by omega), List.take_length, Nat.sub_self]; simp
  | succ d ih =>
    intro k n h0 h1 h2
    obtain ⟨k, rfl⟩ : ∃ m, k = m + 1 := ⟨k - 1, by omega⟩
    have hn : n < l.length := by omega
    have ih' := ih k (n + 1) (by omega) (by omega) (by omega)
    have w1 : wrap64 ((n : Int) + 1) = ((n + 1 : Nat) : Int) := by rw [w64 (by omega) (by omega)]; omega
    have hlen : (l.take n).length = n := by rw [List.length_take]; omega
    simp only [laws_toIntS.l0]
    rw [if_pos (by omega), if_pos (by omega), if_pos (by rw [List.length_append, hlen, List.length_replicate]; omega), w1, rdN l n hn, Int.toNat_natCast, List.set_append_right (h := by omega), hlen, Nat.sub_self]
    have e : List.replicate (l.length - n) (0 : Int) = 0 :: List.replicate (l.length - (n + 1)) 0 := by rw [show l.length - n = (l.length - (n + 1)) + 1 by omega, List.replicate_succ]
    rw [e, List.set_cons_zero]
    have e2 : l.take (n + 1) = l.take n ++ [l[n]] := List.take_succ_eq_append_getElem hn
    rw [e2, List.append_assoc] at ih'
    exact ih'
theorem toI (l : List Int) (hl : l.length ≤ 1048576) (k : Nat) (hk : l.length < k) : laws_toIntS.f k l = some l := by
  simp only [laws_toIntS.f, Int.toNat_natCast]
  rw [if_pos (by omega), if_pos (by omega)]
  have := toI_loop l (by omega) l.length k 0 (by omega) (by omega) hk
  simpa using this
/-! the median of the last three -/
def ins (x : Int) : List Int → List Int
  | [] => [x]
  | y :: ys => if y ≤ x then y :: ins x ys else x :: y :: ys
def insP (x : Int) : List Int → Nat
  | [] => 0
  | y :: ys => if y ≤ x then insP x ys + 1 else 0
theorem insP_le (x : Int) : ∀ s : List Int, insP x s ≤ s.length
  | [] => Nat.le_refl _
  | y :: ys => by
    have := insP_le x ys
    simp only [insP, List.length_cons]
    split <;> omega
theorem ins_eq (x : Int) : ∀ s : List Int, ins x s = s.take (insP x s) ++ [x] ++ s.drop (insP x s)
  | [] => rfl
  | y :: ys => by
    simp only [ins, insP]
    by_cases h : y ≤ x
    · rw [if_pos h, if_pos h, ins_eq x ys]; rfl
    · rw [if_neg h, if_neg h]; rfl
theorem insP_lt (x : Int) : ∀ (s : List Int) (j : Nat) (h : j < s.length), j < insP x s → s[j] ≤ x
  | [], j, h, _ => by simp at h
  | y :: ys, j, h, hj => by
    simp only [insP] at hj
    by_cases c : y ≤ x
    · rw [if_pos c] at hj
      cases j with
      | zero => exact c
      | succ j => exact insP_lt x ys j (by simpa using h) (by omega)
    · rw [if_neg c] at hj; omega
theorem insP_at (x : Int) : ∀ (s : List Int) (h : insP x s < s.length), ¬ s[insP x s] ≤ x
  | [], h => by simp at h
  | y :: ys, h => by
    by_cases c : y ≤ x
    · have hp : insP x (y :: ys) = insP x ys + 1 := by simp only [insP, if_pos c]
      have h2 : insP x ys < ys.length := by rw [hp] at h; simpa using h
      have := insP_at x ys h2
      simp only [hp, List.getElem_cons_succ]
      exact this
    · have hp : insP x (y :: ys) = 0 := by simp only [insP, if_neg c]
      simp only [hp, List.getElem_cons_zero]
      exact c
theorem rdM (l : List Int) (i : Nat) (h : i < l.length) : rd l (i : Int) = l[i] := by
  unfold rd
  rw [Int.toNat_natCast, List.getD_eq_getElem?_getD, List.getElem?_eq_getElem h]; rfl
theorem ins_length (x : Int) : ∀ s : List Int, (ins x s).length = s.length + 1
  | [] => rfl
  | y :: ys => by
    simp only [ins]
    split
    · simp only [List.length_cons, ins_length x ys]
    · rfl
theorem med_inA (l s : List Int) (i p : Nat) (hi : i < l.length) (hl : l.length ≤ 1000) (hs : s.length ≤ 1000) (hp : p ≤ s.length) (hlt : ∀ (j : Nat) (h : j < s.length), j < p → s[j] ≤ l[i]) (hat : ∀ h : p < s.length, ¬ (s[p]'h) ≤ l[i]) (d : Nat) : ∀ (k j : Nat), j ≤ p → p - j = d → d < k → spec_CoordMedianA.l1 k l s (i : Int) (j : Int) = spec_CoordMedianA.l0 (k - d - 1) l (s.take p ++ [l[i]] ++ s.drop p) ((i + 1 : Nat) : Int) := by
  induction d with
  | zero =>
    intro k j h0 h1 h2
    obtain ⟨k, rfl⟩ : ∃ m, k = m + 1 := ⟨k - 1, by omega⟩
    obtain rfl : j = p := by omega
    rw [show k + 1 - 0 - 1 = k by omega]
    have wi : wrap64 ((i : Int) + 1) = ((i + 1 : Nat) : Int) := by rw [w64 (by omega) (by omega)]; omega
    have b0 : (0 : Int) ≤ (j : Int) := by omega
    have b1 : (0 : Int) ≤ (i : Int) := by omega
    have b2 : (i : Int) < (l.length : Int) := by omega
    have b3 : (j : Int) ≤ (s.length : Int) := by omega
    have b4 : ([] : List Int).length + (s.take j).length < 17592186044416 := by rw [List.length_nil, List.length_take]; omega
    have b5 : (s.take j).length + [l[i]].length < 17592186044416 := by rw [List.length_singleton, List.length_take]; omega
    have b6 : (s.take j ++ [l[i]]).length + (s.drop j).length < 17592186044416 := by rw [List.length_append, List.length_singleton, List.length_take, List.length_drop]; omega
    simp only [spec_CoordMedianA.l1, wi, Option.bind_some, Int.toNat_natCast, List.nil_append, rdM l i hi]
    clear wi
    by_cases h : j < s.length
    · have b7 : (j : Int) < (s.length : Int) := by omega
      have h3 := hat h
      rw [if_pos b7, if_pos b0, if_pos b1, if_pos b2, rdM s _ h, if_neg h3, if_pos b3, if_pos b4, if_pos b5, if_pos b6]
    · have b7 : ¬ (j : Int) < (s.length : Int) := by omega
      rw [if_neg b7, if_pos b0, if_pos b3, if_pos b4, if_pos b1, if_pos b2, if_pos b5, if_pos b6]
  | succ d ih =>
    intro k j h0 h1 h2
    obtain ⟨k, rfl⟩ : ∃ m, k = m + 1 := ⟨k - 1, by omega⟩
    have hj : j < s.length := by omega
    have hjp : j < p := by omega
    have e9 : k + 1 - (d + 1) - 1 = k - d - 1 := by omega
    have b0 : (0 : Int) ≤ (j : Int) := by omega
    have b1 : (0 : Int) ≤ (i : Int) := by omega
    have b2 : (i : Int) < (l.length : Int) := by omega
    have b7 : (j : Int) < (s.length : Int) := by omega
    have ih' := ih k (j + 1) (by omega) (by omega) (by omega)
    have wj : wrap64 ((j : Int) + 1) = ((j + 1 : Nat) : Int) := by rw [w64 (by omega) (by omega)]; omega
    simp only [spec_CoordMedianA.l1, wj]
    clear wj
    have h3 := hlt j hj hjp
    rw [if_pos b7, if_pos b0, if_pos b1, if_pos b2, rdM s j hj, rdM l i hi, if_pos h3, e9]
    exact ih'
def medOf (s : List Int) : Int := if s.length = 0 then 0 else rd s (((s.length - 1) / 2 : Nat) : Int)
theorem med_idx (s : List Int) (hs : s.length ≤ 1000) (h : 0 < s.length) : wrap64 (Int.tdiv (wrap64 ((s.length : Int) - 1)) 2) = (((s.length - 1) / 2 : Nat) : Int) := by
  have e1 : wrap64 ((s.length : Int) - 1) = ((s.length - 1 : Nat) : Int) := by rw [w64 (by omega) (by omega)]; omega
  rw [e1, Int.tdiv_eq_ediv_of_nonneg (by omega), w64 (by omega) (by omega)]; omega
theorem med_outA (l : List Int) (hl : l.length ≤ 100) (d : Nat) : ∀ (k i : Nat) (s : List Int), i ≤ l.length → l.length - i = d → s.length = i → d * 200 + 200 < k → spec_CoordMedianA.l0 k l s (i : Int) = some (medOf ((l.drop i).foldl (fun s x => ins x s) s)) := by
  induction d with
  | zero =>
    intro k i s h0 h1 h2 h3
    obtain ⟨k, rfl⟩ : ∃ m, k = m + 1 := ⟨k - 1, by omega⟩
    obtain rfl : i = l.length := by omega
    rw [List.drop_length, List.foldl_nil]
    simp only [spec_CoordMedianA.l0, medOf]
    rw [if_neg (by omega)]
    by_cases hz : s.length = 0
    · rw [if_pos (by omega), if_pos hz]
    · rw [if_neg (by omega), if_neg hz, med_idx s (by omega) (by omega), if_pos (by omega), if_pos (by omega)]
  | succ d ih =>
    intro k i s h0 h1 h2 h3
    obtain ⟨k, rfl⟩ : ∃ m, k = m + 1 := ⟨k - 1, by omega⟩
    have hi : i < l.length := by omega
    have hp := insP_le l[i] s
    simp only [spec_CoordMedianA.l0]
    rw [if_pos (by omega)]
    have h4 := med_inA l s i (insP l[i] s) hi (by omega) (by omega) hp (insP_lt l[i] s) (insP_at l[i] s) (insP l[i] s) k 0 (Nat.zero_le _) (Nat.sub_zero _) (by omega)
    rw [← ins_eq] at h4
    refine h4.trans ?_
    rw [List.drop_eq_getElem_cons hi, List.foldl_cons]
    have h5 := ins_length l[i] s
    clear h4
    generalize insP l[i] s = p at hp ⊢
    generalize ins l[i] s = q at h5 ⊢
    have g1 : i + 1 ≤ l.length := by omega
    have g2 : l.length - (i + 1) = d := by omega
    have g3 : q.length = i + 1 := by omega
    have g4 : d * 200 + 200 < k - p - 1 := by omega
    exact ih (k - p - 1) (i + 1) q g1 g2 g3 g4
theorem med_inB (l s : List Int) (i p : Nat) (hi : i < l.length) (hl : l.length ≤ 1000) (hs : s.length ≤ 1000) (hp : p ≤ s.length) (hlt : ∀ (j : Nat) (h : j < s.length), j < p → s[j] ≤ l[i]) (hat : ∀ h : p < s.length, ¬ (s[p]'h) ≤ l[i]) (d : Nat) : ∀ (k j : Nat), j ≤ p → p - j = d → d < k → spec_CoordMedianB.l1 k l s (i : Int) (j : Int) = spec_CoordMedianB.l0 (k - d - 1) l (s.take p ++ [l[i]] ++ s.drop p) ((i + 1 : Nat) : Int) := by
  induction d with
  | zero =>
    intro k j h0 h1 h2
    obtain ⟨k, rfl⟩ : ∃ m, k = m + 1 := ⟨k - 1, by omega⟩
    obtain rfl : j = p := by omega
    rw [show k + 1 - 0 - 1 = k by omega]
    have wi : wrap64 ((i : Int) + 1) = ((i + 1 : Nat) : Int) := by rw [w64 (by omega) (by omega)]; omega
    have b0 : (0 : Int) ≤ (j : Int) := by omega
    have b1 : (0 : Int) ≤ (i : Int) := by omega
    have b2 : (i : Int) < (l.length : Int) := by omega
    have b3 : (j : Int) ≤ (s.length : Int) := by omega
    have b4 : ([] : List Int).length + (s.take j).length < 17592186044416 := by rw [List.length_nil, List.length_take]; omega
    have b5 : (s.take j).length + [l[i]].length < 17592186044416 := by rw [List.length_singleton, List.length_take]; omega
    have b6 : (s.take j ++ [l[i]]).length + (s.drop j).length < 17592186044416 := by rw [List.length_append, List.length_singleton, List.length_take, List.length_drop]; omega
    simp only [spec_CoordMedianB.l1, wi, Option.bind_some, Int.toNat_natCast, List.nil_append, rdM l i hi]
    clear wi
    by_cases h : j < s.length
    · have b7 : (j : Int) < (s.length : Int) := by omega
      have h3 := hat h
      rw [if_pos b7, if_pos b0, if_pos b1, if_pos b2, rdM s _ h, if_neg h3, if_pos b3, if_pos b4, if_pos b5, if_pos b6]
    · have b7 : ¬ (j : Int) < (s.length : Int) := by omega
      rw [if_neg b7, if_pos b0, if_pos b3, if_pos b4, if_pos b1, if_pos b2, if_pos b5, if_pos b6]
  | succ d ih =>
    intro k j h0 h1 h2
    obtain ⟨k, rfl⟩ : ∃ m, k = m + 1 := ⟨k - 1, by omega⟩
    have hj : j < s.length := by omega
    have hjp : j < p := by omega
    have e9 : k + 1 - (d + 1) - 1 = k - d - 1 := by omega
    have b0 : (0 : Int) ≤ (j : Int) := by omega
    have b1 : (0 : Int) ≤ (i : Int) := by omega
    have b2 : (i : Int) < (l.length : Int) := by omega
    have b7 : (j : Int) < (s.length : Int) := by omega
    have ih' := ih k (j + 1) (by omega) (by omega) (by omega)
    have wj : wrap64 ((j : Int) + 1) = ((j + 1 : Nat) : Int) := by rw [w64 (by omega) (by omega)]; omega
    simp only [spec_CoordMedianB.l1, wj]
    clear wj
    have h3 := hlt j hj hjp
    rw [if_pos b7, if_pos b0, if_pos b1, if_pos b2, rdM s j hj, rdM l i hi, if_pos h3, e9]
    exact ih'
theorem med_outB (l : List Int) (hl : l.length ≤ 100) (d : Nat) : ∀ (k i : Nat) (s : List Int), i ≤ l.length → l.length - i = d → s.length = i → d * 200 + 200 < k → spec_CoordMedianB.l0 k l s (i : Int) = some (medOf ((l.drop i).foldl (fun s x => ins x s) s)) := by
  induction d with
  | zero =>
    intro k i s h0 h1 h2 h3
    obtain ⟨k, rfl⟩ : ∃ m, k = m + 1 := ⟨k - 1, by omega⟩
    obtain rfl : i = l.length := by omega
    rw [List.drop_length, List.foldl_nil]
    simp only [spec_CoordMedianB.l0, medOf]
    rw [if_neg (by omega)]
    by_cases hz : s.length = 0
    · rw [if_pos (by omega), if_pos hz]
    · rw [if_neg (by omega), if_neg hz, med_idx s (by omega) (by omega), if_pos (by omega), if_pos (by omega)]
  | succ d ih =>
    intro k i s h0 h1 h2 h3
    obtain ⟨k, rfl⟩ : ∃ m, k = m + 1 := ⟨k - 1, by omega⟩
    have hi : i < l.length := by omega
    have hp := insP_le l[i] s
    simp only [spec_CoordMedianB.l0]
    rw [if_pos (by omega)]
    have h4 := med_inB l s i (insP l[i] s) hi (by omega) (by omega) hp (insP_lt l[i] s) (insP_at l[i] s) (insP l[i] s) k 0 (Nat.zero_le _) (Nat.sub_zero _) (by omega)
    rw [← ins_eq] at h4
    refine h4.trans ?_
    rw [List.drop_eq_getElem_cons hi, List.foldl_cons]
    have h5 := ins_length l[i] s
    clear h4
    generalize insP l[i] s = p at hp ⊢
    generalize ins l[i] s = q at h5 ⊢
    have g1 : i + 1 ≤ l.length := by omega
    have g2 : l.length - (i + 1) = d := by omega
    have g3 : q.length = i + 1 := by omega
    have g4 : d * 200 + 200 < k - p - 1 := by omega
    exact ih (k - p - 1) (i + 1) q g1 g2 g3 g4
def med3 (l : List Int) : Int := medOf ((l.drop (l.length - 3)).foldl (fun s x => ins x s) [])
theorem s_med (l : List Int) (hl : l.length ≤ 100000000) (k : Nat) (hk : 1000 ≤ k) : spec_CoordMedian.f k l = some (med3 l) := by
  have hd : (l.drop (l.length - 3)).length ≤ 3 := by rw [List.length_drop]; omega
  simp only [spec_CoordMedian.f, med3]
  by_cases h : (l.length : Int) > 3
  · have e1 : wrap64 ((l.length : Int) - 3) = ((l.length - 3 : Nat) : Int) := by rw [w64 (by omega) (by omega)]; omega
    have := med_outB (l.drop (l.length - 3)) (by omega) (l.drop (l.length - 3)).length k 0 [] (by omega) (by omega) rfl (by omega)
    rw [List.drop_zero] at this
    rw [if_pos h]
    simp only [spec_CoordMedianB.f, e1, Int.toNat_natCast]
    rw [if_pos h, if_pos (by omega), if_pos (by omega), show ((0 : Int)) = ((0 : Nat) : Int) from rfl, this]; rfl
  · have e : l.drop (l.length - 3) = l := by rw [show l.length - 3 = 0 by omega, List.drop_zero]
    rw [e] at hd ⊢
    have := med_outA l (by omega) l.length k 0 [] (by omega) (by omega) rfl (by omega)
    rw [List.drop_zero] at this
    rw [if_neg h]
    simp only [spec_CoordMedianA.f]
    rw [if_neg h, show ((0 : Int)) = ((0 : Nat) : Int) from rfl, this]; rfl
theorem less_eq (a b : Int) : cmp_Less_int.f a b = some (decide (a < b)) := by
  simp only [cmp_Less_int.f, cmp_isNaN_int.f, Option.bind_some, bne_self_eq_false, Bool.false_eq_true, if_false]
theorem srt_in (l : List Int) (h3 : l.length ≤ 3) (k : Nat) : slices_insertionSortOrdered_int.f (k + 20) l 0 (l.length : Int) = some (l.foldl (fun s x => ins x s) []) := by
  have e0 : wrap64 (0 + 1) = 1 := w64 (by omega) (by omega)
  have e1 : wrap64 (1 + 1) = 2 := w64 (by omega) (by omega)
  have e2 : wrap64 (2 + 1) = 3 := w64 (by omega) (by omega)
  have e3 : wrap64 (1 - 1) = 0 := w64 (by omega) (by omega)
  have e4 : wrap64 (2 - 1) = 1 := w64 (by omega) (by omega)
  have o1 : ∀ (k : Nat) (x y : Int), slices_insertionSortOrdered_int.l0 (k + 1) [x, y] 0 2 1 = slices_insertionSortOrdered_int.l1 k [x, y] 0 2 1 1 := fun k x y => by
    simp only [slices_insertionSortOrdered_int.l0]; rw [if_pos (by decide)]
  have o2 : ∀ (k : Nat) (x y : Int), slices_insertionSortOrdered_int.l0 (k + 1) [x, y] 0 2 2 = some [x, y] := fun k x y => by
    simp only [slices_insertionSortOrdered_int.l0]; rw [if_neg (by decide)]
  have o3 : ∀ (k : Nat) (x y : Int), slices_insertionSortOrdered_int.l1 (k + 1) [x, y] 0 2 1 0 = slices_insertionSortOrdered_int.l0 k [x, y] 0 2 2 := fun k x y => by
    simp only [slices_insertionSortOrdered_int.l1, e1]; rw [if_neg (by decide)]
  have o4 : ∀ (k : Nat) (x y : Int), slices_insertionSortOrdered_int.l1 (k + 1) [x, y] 0 2 1 1 = if y < x then slices_insertionSortOrdered_int.l1 k [y, x] 0 2 1 0 else slices_insertionSortOrdered_int.l0 k [x, y] 0 2 2 := fun k x y => by
    simp only [slices_insertionSortOrdered_int.l1, e1, e3]
    rw [if_pos (by decide), if_pos (by decide), if_pos (by simp), if_pos (by decide), if_pos (by simp), show rd [x, y] 1 = y from rfl, show rd [x, y] 0 = x from rfl, less_eq]
    by_cases h : y < x
    · rw [if_pos h, decide_eq_true h]; rfl
    · rw [if_neg h, decide_eq_false h]; rfl
  have p1 : ∀ (k : Nat) (x y z : Int), slices_insertionSortOrdered_int.l0 (k + 1) [x, y, z] 0 3 1 = slices_insertionSortOrdered_int.l1 k [x, y, z] 0 3 1 1 := fun k x y z => by
    simp only [slices_insertionSortOrdered_int.l0]; rw [if_pos (by decide)]
  have p2 : ∀ (k : Nat) (x y z : Int), slices_insertionSortOrdered_int.l0 (k + 1) [x, y, z] 0 3 2 = slices_insertionSortOrdered_int.l1 k [x, y, z] 0 3 2 2 := fun k x y z => by
    simp only [slices_insertionSortOrdered_int.l0]; rw [if_pos (by decide)]
  have p3 : ∀ (k : Nat) (x y z : Int), slices_insertionSortOrdered_int.l0 (k + 1) [x, y, z] 0 3 3 = some [x, y, z] := fun k x y z => by
    simp only [slices_insertionSortOrdered_int.l0]; rw [if_neg (by decide)]
  have p4 : ∀ (k : Nat) (x y z i : Int), slices_insertionSortOrdered_int.l1 (k + 1) [x, y, z] 0 3 i 0 = slices_insertionSortOrdered_int.l0 k [x, y, z] 0 3 (wrap64 (i + 1)) := fun k x y z i => by
    simp only [slices_insertionSortOrdered_int.l1]; rw [if_neg (by decide)]
  have p5 : ∀ (k : Nat) (x y z i : Int), slices_insertionSortOrdered_int.l1 (k + 1) [x, y, z] 0 3 i 1 = if y < x then slices_insertionSortOrdered_int.l1 k [y, x, z] 0 3 i 0 else slices_insertionSortOrdered_int.l0 k [x, y, z] 0 3 (wrap64 (i + 1)) := fun k x y z i => by
    simp only [slices_insertionSortOrdered_int.l1, e3]
    rw [if_pos (by decide), if_pos (by decide), if_pos (by simp), if_pos (by decide), if_pos (by simp), show rd [x, y, z] 1 = y from rfl, show rd [x, y, z] 0 = x from rfl, less_eq]
    by_cases h : y < x
    · rw [if_pos h, decide_eq_true h]; rfl
    · rw [if_neg h, decide_eq_false h]; rfl
  have p6 : ∀ (k : Nat) (x y z i : Int), slices_insertionSortOrdered_int.l1 (k + 1) [x, y, z] 0 3 i 2 = if z < y then slices_insertionSortOrdered_int.l1 k [x, z, y] 0 3 i 1 else slices_insertionSortOrdered_int.l0 k [x, y, z] 0 3 (wrap64 (i + 1)) := fun k x y z i => by
    simp only [slices_insertionSortOrdered_int.l1, e4]
    rw [if_pos (by decide), if_pos (by decide), if_pos (by simp), if_pos (by decide), if_pos (by simp), show rd [x, y, z] 2 = z from rfl, show rd [x, y, z] 1 = y from rfl, less_eq]
    by_cases h : z < y
    · rw [if_pos h, decide_eq_true h]; rfl
    · rw [if_neg h, decide_eq_false h]; rfl
  unfold slices_insertionSortOrdered_int.f
  rw [e0]
  match l, h3 with
  | [], _ =>
    simp only [slices_insertionSortOrdered_int.l0]; rw [if_neg (by decide)]; rfl
  | [a], _ =>
    show slices_insertionSortOrdered_int.l0 (k + 20) [a] 0 1 1 = some [a]
    simp only [slices_insertionSortOrdered_int.l0]; rw [if_neg (by decide)]
  | [a, b], _ =>
    show slices_insertionSortOrdered_int.l0 (k + 20) [a, b] 0 2 1 = some (if a ≤ b then [a, b] else [b, a])
    rw [o1, o4]
    by_cases h : b < a
    · rw [if_pos h, o3, o2, if_neg (by omega)]
    · rw [if_neg h, o2, if_pos (by omega)]
  | [a, b, c], _ =>
    show slices_insertionSortOrdered_int.l0 (k + 20) [a, b, c] 0 3 1 = some (ins c (if a ≤ b then [a, b] else [b, a]))
    rw [p1, p5]
    by_cases h : b < a
    · rw [if_pos h, p4, e1, p2, p6, if_neg (show ¬ a ≤ b by omega)]
      by_cases g : c < a
      · rw [if_pos g, p5]
        by_cases f : c < b
        · rw [if_pos f, p4, e2, p3]
          simp only [ins]
          rw [if_neg (by omega)]
        · rw [if_neg f, e2, p3]
          simp only [ins]
          rw [if_pos (by omega), if_neg (by omega)]
      · rw [if_neg g, e2, p3]
        simp only [ins]
        rw [if_pos (by omega), if_pos (by omega)]
    · rw [if_neg h, e1, p2, p6, if_pos (show a ≤ b by omega)]
      by_cases g : c < b
      · rw [if_pos g, p5]
        by_cases f : c < a
        · rw [if_pos f, p4, e2, p3]
          simp only [ins]
          rw [if_neg (by omega)]
        · rw [if_neg f, e2, p3]
          simp only [ins]
          rw [if_pos (by omega), if_neg (by omega)]
      · rw [if_neg g, e2, p3]
        simp only [ins]
        rw [if_pos (by omega), if_pos (by omega)]
theorem fold_length : ∀ (m s : List Int), (m.foldl (fun s x => ins x s) s).length = s.length + m.length
  | [], s => rfl
  | y :: ys, s => by rw [List.foldl_cons, fold_length ys, ins_length, List.length_cons]; omega
theorem cut_idx (n : Nat) (hn : n ≤ 100000000) : mx (wrap64 ((n : Int) - 3)) 0 = ((n - 3 : Nat) : Int) := by
  rw [w64 (n := (n : Int) - 3) (by omega) (by omega)]; unfold mx; split <;> omega
theorem len_sub (n : Nat) (hn : n ≤ 3) : wrap64 ((n : Int) - 0) = (n : Int) := by rw [w64 (by omega) (by omega)]; omega
theorem i_pdq (m : List Int) (hd : m.length ≤ 3) (k : Nat) (v : Int) : slices_pdqsortOrdered_int.f (k + 21) m 0 (m.length : Int) v = some (m.foldl (fun s x => ins x s) []) := by
  have b4 : (m.length : Int) ≤ 12 := by omega
  have hs := srt_in m hd k
  generalize m.foldl (fun s x => ins x s) [] = q at hs ⊢
  unfold slices_pdqsortOrdered_int.f
  show slices_pdqsortOrdered_int.l0 ((k + 20) + 1) m 0 (m.length : Int) = some q
  generalize k + 20 = K at hs ⊢
  rw [slices_pdqsortOrdered_int.l0, len_sub m.length hd, if_pos b4, hs, Option.bind_some]
theorem i_srt (m : List Int) (hd : m.length ≤ 3) (k : Nat) : slices_Sorted_int.f (k + 21) m = some (m.foldl (fun s x => ins x s) []) := by
  have hp := i_pdq m hd k
  generalize m.foldl (fun s x => ins x s) [] = q at hp ⊢
  generalize k + 21 = K at hp ⊢
  have b3 : ([] : List Int).length + m.length < 17592186044416 := by rw [List.length_nil]; omega
  unfold slices_Sorted_int.f
  rw [Option.bind_some, if_pos b3, List.nil_append]
  unfold slices_Sort_int_int.f bits_Len.f
  rw [Option.bind_some, hp, Option.bind_some, Option.bind_some]
theorem med_pick (s : List Int) (hs : s.length ≤ 3) : (if (s.length : Int) = 0 then some 0 else if 0 ≤ wrap64 (Int.tdiv (wrap64 ((s.length : Int) - 1)) 2) then (if wrap64 (Int.tdiv (wrap64 ((s.length : Int) - 1)) 2) < (s.length : Int) then some (rd s (wrap64 (Int.tdiv (wrap64 ((s.length : Int) - 1)) 2))) else none) else none) = some (medOf s) := by
  unfold medOf
  by_cases hz : s.length = 0
  · rw [if_pos (by omega), if_pos hz]
  · rw [if_neg (by omega), if_neg hz, med_idx s (by omega) (by omega), if_pos (by omega), if_pos (by omega)]
theorem i_med (l : List Int) (hl : l.length ≤ 100000000) (k : Nat) : impl_CoordMedian.f (k + 21) l = some (med3 l) := by
  have hd : (l.drop (l.length - 3)).length ≤ 3 := by rw [List.length_drop]; omega
  have b1 : (0 : Int) ≤ ((l.length - 3 : Nat) : Int) := by omega
  have b2 : ((l.length - 3 : Nat) : Int) ≤ (l.length : Int) := by omega
  have hlen : ((l.drop (l.length - 3)).foldl (fun s x => ins x s) []).length ≤ 3 := by rw [fold_length, List.length_nil]; omega
  simp only [impl_CoordMedian.f, cut_idx l.length hl, Int.toNat_natCast, i_srt _ hd k, Option.bind_some]
  rw [if_pos b1, if_pos b2]
  exact med_pick _ hlen

theorem FnExactCoordMedian : laws_FnExactCoordMedian.Pure := by
  intro l hl _ _
  obtain ⟨K, hK⟩ : ∃ K : Nat, l.length + 1200 < K := ⟨l.length + 1201, by omega⟩
  refine ⟨K + 21, ?_⟩
  simp only [laws_FnExactCoordMedian.f]
  by_cases h0 : (l.length : Int) > 1048576
  · rw [if_pos h0]
  · rw [if_neg h0]
    have b1 : l.length ≤ 1048576 := by omega
    have b2 : l.length < K + 21 := by omega
    have b3 : 1000 ≤ K + 21 := by omega
    have b4 : l.length ≤ 100000000 := by omega
    have b5 : l.length ≤ 1000000000000 := by omega
    simp only [toI l b1 (K + 21) b2, s_med l b4 (K + 21) b3, i_med l b4 K, eqI l b5 (K + 21) b2, Option.bind_some, if_true]
end Go.Proofs.Ytbpapiejmedkeaa.Pure
