/- One trip that is wrong does not count: of drawn trips, of the last three the program's median is one, and two at least are not below it and two not above it; and it is the reference's. Conditions: the bytes' number is within the row's reach. -/
import Derived.Test.YtbpapiejmedkeaaPFnCoordMedianx
set_option linter.unusedVariables false
set_option linter.unusedSimpArgs false
namespace Go.Proofs.Ytbpapiejmedkeaa.Pure
open Go.RowKit Go.Proofs.Ytbpapiejmedkeaa.PFnCoordMedian Go.Proofs.YtbpapiejmedkeaaW.PrintWords Go.Proofs.YtbpapiejmedkeaaW.PrintLast Go.Proofs.YtbpapiejmedkeaaW.PrintMore
theorem w64 {n : Int} (h : -9223372036854775808 ≤ n) (h' : n ≤ 9223372036854775807) : wrap64 n = n := by unfold wrap64; omega
theorem lt_ge (a b : Int) : a < b ∨ b ≤ a := by omega
/-! drawing -/
theorem i64_xor (a b : Int) (h1 : 0 ≤ a) (h2 : a < 9223372036854775808) (h3 : 0 ≤ b) (h4 : b < 9223372036854775808) : Go.bits .xor .i64 a b = ((a.toNat ^^^ b.toNat : Nat) : Int) := by
  obtain ⟨a, rfl⟩ := Int.eq_ofNat_of_zero_le h1
  obtain ⟨b, rfl⟩ := Int.eq_ofNat_of_zero_le h3
  have ha' : a % 2 ^ IntKind.i64.bits = a := Nat.mod_eq_of_lt (by show a < 2 ^ 64; omega)
  have hb' : b % 2 ^ IntKind.i64.bits = b := Nat.mod_eq_of_lt (by show b < 2 ^ 64; omega)
  have hx : a ^^^ b < 2 ^ 63 := Nat.xor_lt_two_pow (by omega) (by omega)
  simp only [Go.bits, BitVec.ofInt_natCast, BitVec.toNat_xor, BitVec.toNat_ofNat, ha', hb', Int.toNat_natCast]
  rw [IntKind.wrap_i64]
  omega
/-- The reader's bytes and its place. -/
def Rdr (b : List Int) (p : Int) : Prop := (∀ x ∈ b, 0 ≤ x ∧ x ≤ 255) ∧ b.length ≤ 2000 ∧ 0 ≤ p
theorem rd_byte {b : List Int} (h : ∀ x ∈ b, 0 ≤ x ∧ x ≤ 255) (i : Int) : 0 ≤ rd b i ∧ rd b i ≤ 255 := by
  unfold rd
  rw [List.getD_eq_getElem?_getD]
  rcases hq : b[i.toNat]? with _ | x
  · simp
  · exact h x (List.mem_of_getElem? hq)
theorem tmod_bd {a n : Int} (ha : 0 ≤ a) (hn : 0 < n) : 0 ≤ Int.tmod a n ∧ Int.tmod a n < n := ⟨Int.tmod_nonneg _ ha, Int.tmod_lt_of_pos _ hn⟩
theorem pick_ok (b : List Int) (p n : Int) (hR : Rdr b p) (hp : p ≤ 1000000) : ∃ v, 0 ≤ v ∧ (0 < n → v < n) ∧ (n < 1 → v = 0) ∧ ∀ k, 1 ≤ k → spec_l1Rd_pick.f k b p n = some (v, p + 1) := by
  obtain ⟨hb, hl, h0⟩ := hR
  have e1 : wrap64 (p + 1) = p + 1 := w64 (by omega) (by omega)
  by_cases hn : n < 1
  · refine ⟨0, by omega, by omega, fun _ => rfl, fun k hk => ?_⟩
    obtain ⟨k, rfl⟩ : ∃ m, k = m + 1 := ⟨k - 1, by omega⟩
    simp only [spec_l1Rd_pick.f, spec_l1Rd_pick.j0]
    rw [if_pos hn, if_pos trivial, e1]
  · have e2 : wrap64 (p + 1 - 1) = p := by rw [w64 (by omega) (by omega)]; omega
    by_cases hz : b.length = 0
    · refine ⟨0, by omega, by omega, fun _ => rfl, fun k hk => ?_⟩
      obtain ⟨k, rfl⟩ : ∃ m, k = m + 1 := ⟨k - 1, by omega⟩
      simp only [spec_l1Rd_pick.f, spec_l1Rd_pick.j0]
      rw [if_neg hn, if_pos (beq_iff_eq.mpr (by omega)), e1]
    · have hz' : ((b.length : Int) == 0) = false := beq_eq_false_iff_ne.mpr (by omega)
      by_cases hlt : p < (b.length : Int)
      · obtain ⟨r1, r2⟩ := rd_byte hb p
        obtain ⟨m1, m2⟩ := tmod_bd r1 (show 0 < n by omega)
        refine ⟨Int.tmod (rd b p) n, m1, fun _ => m2, by omega, fun k hk => ?_⟩
        obtain ⟨k, rfl⟩ : ∃ m, k = m + 1 := ⟨k - 1, by omega⟩
        simp only [spec_l1Rd_pick.f, spec_l1Rd_pick.j0, hz', e1, e2]
        rw [if_neg hn, if_neg (by decide), if_pos hlt, if_pos h0, if_neg (by omega), w64 (n := rd b p) (by omega) (by omega)]
      · have e3 : wrap64 (p * 7) = p * 7 := w64 (by omega) (by omega)
        have e4 : wrap64 (p * 7 + 3) = p * 7 + 3 := w64 (by omega) (by omega)
        have e5 : wrap64 (p * 29) = p * 29 := w64 (by omega) (by omega)
        obtain ⟨i, hi⟩ : ∃ i, i = Int.tmod p (b.length : Int) := ⟨_, rfl⟩
        obtain ⟨j, hj⟩ : ∃ j, j = Int.tmod (p * 7 + 3) (b.length : Int) := ⟨_, rfl⟩
        obtain ⟨i1, i2⟩ := tmod_bd h0 (show 0 < (b.length : Int) by omega)
        obtain ⟨j1, j2⟩ := tmod_bd (show 0 ≤ p * 7 + 3 by omega) (show 0 < (b.length : Int) by omega)
        rw [← hi] at i1 i2
        rw [← hj] at j1 j2
        obtain ⟨a1, a2⟩ := rd_byte hb i
        obtain ⟨c1, c2⟩ := rd_byte hb j
        obtain ⟨q, hq⟩ : ∃ q, q = Int.tdiv p (b.length : Int) := ⟨_, rfl⟩
        have q1 : 0 ≤ q ∧ q ≤ p := by
          rw [hq, Int.tdiv_eq_ediv_of_nonneg h0]
          exact ⟨Int.ediv_nonneg h0 (by omega), Int.ediv_le_self _ h0⟩
        have f1 : wrap64 (rd b i) = rd b i := w64 (by omega) (by omega)
        have f2 : wrap64 (rd b j) = rd b j := w64 (by omega) (by omega)
        have f3 : wrap64 (rd b i * 131) = rd b i * 131 := w64 (by omega) (by omega)
        have f4 : wrap64 (rd b j * 1117) = rd b j * 1117 := w64 (by omega) (by omega)
        have f5 : wrap64 q = q := w64 (by omega) (by omega)
        have f6 : wrap64 (q * 53) = q * 53 := w64 (by omega) (by omega)
        have f7 : wrap64 (rd b i * 131 + rd b j * 1117) = rd b i * 131 + rd b j * 1117 := w64 (by omega) (by omega)
        have f8 : wrap64 (rd b i * 131 + rd b j * 1117 + p * 29) = rd b i * 131 + rd b j * 1117 + p * 29 := w64 (by omega) (by omega)
        obtain ⟨x, hx⟩ : ∃ x, x = rd b i * 131 + rd b j * 1117 + p * 29 + q * 53 := ⟨_, rfl⟩
        have f9 : wrap64 (rd b i * 131 + rd b j * 1117 + p * 29 + q * 53) = x := by rw [hx]; exact w64 (by omega) (by omega)
        have x1 : 0 ≤ x := by omega
        have x2 : x ≤ 100000000 := by omega
        have f10 : wrap64 (Int.tdiv x 64) = x / 64 := by rw [Int.tdiv_eq_ediv_of_nonneg x1]; exact w64 (by omega) (by omega)
        have f11 := i64_xor x (x / 64) x1 (by omega) (by omega) (by omega)
        obtain ⟨m1, m2⟩ := tmod_bd (Int.natCast_nonneg (x.toNat ^^^ (x / 64).toNat)) (show 0 < n by omega)
        refine ⟨Int.tmod ((x.toNat ^^^ (x / 64).toNat : Nat) : Int) n, m1, fun _ => m2, by omega, fun k hk => ?_⟩
        obtain ⟨k, rfl⟩ : ∃ m, k = m + 1 := ⟨k - 1, by omega⟩
        simp only [spec_l1Rd_pick.f, spec_l1Rd_pick.j0, hz', e1, e2, e3, e4, e5, ← hi, ← hj, ← hq, f1, f2, f3, f4, f5, f6, f7, f8, f9, f10, f11]
        rw [if_neg hn, if_neg (by decide), if_neg hlt, if_neg (by omega), if_pos i1, if_pos i2, if_pos j1, if_pos j2, if_neg (by omega)]
theorem rdr_next {b : List Int} {p : Int} (h : Rdr b p) : Rdr b (p + 1) := ⟨h.1, h.2.1, by have := h.2.2; omega⟩
theorem open_ok (l : List Int) (hl : ∀ x ∈ l, (Lit.int .u8 x).wf = true) : ∃ b, Rdr b 0 ∧ spec_l1Open.f l = some (b, 0) := by
  have hw : ∀ x ∈ l, 0 ≤ x ∧ x ≤ 255 := by
    intro x hx
    have := hl x hx
    have h2 := (Bool.and_eq_true _ _).mp this
    have h3 := of_decide_eq_true h2.1
    have h4 := of_decide_eq_true h2.2
    exact ⟨h3, h4⟩
  simp only [spec_l1Open.f]
  by_cases h : (l.length : Int) > 2000
  · rw [if_pos h, if_pos (by omega)]
    exact ⟨l.take 2000, ⟨fun x hx => hw x (List.mem_of_mem_take hx), by rw [List.length_take]; omega, by omega⟩, rfl⟩
  · rw [if_neg h]
    exact ⟨l, ⟨hw, by omega, by omega⟩, rfl⟩
/-! the median of the last three -/
def ins (x : Int) : List Int → List Int
  | [] => [x]
  | y :: ys => if y ≤ x then y :: ins x ys else x :: y :: ys
def insP (x : Int) : List Int → Nat
  | [] => 0
  | y :: ys => if y ≤ x then insP x ys + 1 else 0
theorem insP_le (x : Int) : ∀ s : List Int, insP x s ≤ s.length
  | [] => Nat.le_refl _
  | y :: ys => by
    have := insP_le x ys
    simp only [insP, List.length_cons]
    split <;> omega
theorem ins_eq (x : Int) : ∀ s : List Int, ins x s = s.take (insP x s) ++ [x] ++ s.drop (insP x s)
  | [] => rfl
  | y :: ys => by
    simp only [ins, insP]
    by_cases h : y ≤ x
    · rw [if_pos h, if_pos h, ins_eq x ys]; rfl
    · rw [if_neg h, if_neg h]; rfl
theorem insP_lt (x : Int) : ∀ (s : List Int) (j : Nat) (h : j < s.length), j < insP x s → s[j] ≤ x
  | [], j, h, _ => by simp at h
  | y :: ys, j, h, hj => by
    simp only [insP] at hj
    by_cases c : y ≤ x
    · rw [if_pos c] at hj
      cases j with
      | zero => exact c
      | succ j => exact insP_lt x ys j (by simpa using h) (by omega)
    · rw [if_neg c] at hj; omega
theorem insP_at (x : Int) : ∀ (s : List Int) (h : insP x s < s.length), ¬ s[insP x s] ≤ x
  | [], h => by simp at h
  | y :: ys, h => by
    by_cases c : y ≤ x
    · have hp : insP x (y :: ys) = insP x ys + 1 := by simp only [insP, if_pos c]
      have h2 : insP x ys < ys.length := by rw [hp] at h; simpa using h
      have := insP_at x ys h2
      simp only [hp, List.getElem_cons_succ]
      exact this
    · have hp : insP x (y :: ys) = 0 := by simp only [insP, if_neg c]
      simp only [hp, List.getElem_cons_zero]
      exact c
theorem rdM (l : List Int) (i : Nat) (h : i < l.length) : rd l (i : Int) = l[i] := by
  unfold rd
  rw [Int.toNat_natCast, List.getD_eq_getElem?_getD, List.getElem?_eq_getElem h]; rfl
theorem ins_length (x : Int) : ∀ s : List Int, (ins x s).length = s.length + 1
  | [] => rfl
  | y :: ys => by
    simp only [ins]
    split
    · simp only [List.length_cons, ins_length x ys]
    · rfl
theorem med_inA (l s : List Int) (i p : Nat) (hi : i < l.length) (hl : l.length ≤ 1000) (hs : s.length ≤ 1000) (hp : p ≤ s.length) (hlt : ∀ (j : Nat) (h : j < s.length), j < p → s[j] ≤ l[i]) (hat : ∀ h : p < s.length, ¬ (s[p]'h) ≤ l[i]) (d : Nat) : ∀ (k j : Nat), j ≤ p → p - j = d → d < k → spec_CoordMedianA.l1 k l s (i : Int) (j : Int) = spec_CoordMedianA.l0 (k - d - 1) l (s.take p ++ [l[i]] ++ s.drop p) ((i + 1 : Nat) : Int) := by
  induction d with
  | zero =>
    intro k j h0 h1 h2
    obtain ⟨k, rfl⟩ : ∃ m, k = m + 1 := ⟨k - 1, by omega⟩
    obtain rfl : j = p := by omega
    rw [show k + 1 - 0 - 1 = k by omega]
    have wi : wrap64 ((i : Int) + 1) = ((i + 1 : Nat) : Int) := by rw [w64 (by omega) (by omega)]; omega
    have b0 : (0 : Int) ≤ (j : Int) := by omega
    have b1 : (0 : Int) ≤ (i : Int) := by omega
    have b2 : (i : Int) < (l.length : Int) := by omega
    have b3 : (j : Int) ≤ (s.length : Int) := by omega
    have b4 : ([] : List Int).length + (s.take j).length < 17592186044416 := by rw [List.length_nil, List.length_take]; omega
    have b5 : (s.take j).length + [l[i]].length < 17592186044416 := by rw [List.length_singleton, List.length_take]; omega
    have b6 : (s.take j ++ [l[i]]).length + (s.drop j).length < 17592186044416 := by rw [List.length_append, List.length_singleton, List.length_take, List.length_drop]; omega
    simp only [spec_CoordMedianA.l1, wi, Option.bind_some, Int.toNat_natCast, List.nil_append, rdM l i hi]
    clear wi
    by_cases h : j < s.length
    · have b7 : (j : Int) < (s.length : Int) := by omega
      have h3 := hat h
      rw [if_pos b7, if_pos b0, if_pos b1, if_pos b2, rdM s _ h, if_neg h3, if_pos b3, if_pos b4, if_pos b5, if_pos b6]
    · have b7 : ¬ (j : Int) < (s.length : Int) := by omega
      rw [if_neg b7, if_pos b0, if_pos b3, if_pos b4, if_pos b1, if_pos b2, if_pos b5, if_pos b6]
  | succ d ih =>
    intro k j h0 h1 h2
    obtain ⟨k, rfl⟩ : ∃ m, k = m + 1 := ⟨k - 1, by omega⟩
    have hj : j < s.length := by omega
    have hjp : j < p := by omega
    have e9 : k + 1 - (d + 1) - 1 = k - d - 1 := by omega
    have b0 : (0 : Int) ≤ (j : Int) := by omega
    have b1 : (0 : Int) ≤ (i : Int) := by omega
    have b2 : (i : Int) < (l.length : Int) := by omega
    have b7 : (j : Int) < (s.length : Int) := by omega
    have ih' := ih k (j + 1) (by omega) (by omega) (by omega)
    have wj : wrap64 ((j : Int) + 1) = ((j + 1 : Nat) : Int) := by rw [w64 (by omega) (by omega)]; omega
    simp only [spec_CoordMedianA.l1, wj]
    clear wj
    have h3 := hlt j hj hjp
    rw [if_pos b7, if_pos b0, if_pos b1, if_pos b2, rdM s j hj, rdM l i hi, if_pos h3, e9]
    exact ih'
def medOf (s : List Int) : Int := if s.length = 0 then 0 else rd s (((s.length - 1) / 2 : Nat) : Int)
theorem med_idx (s : List Int) (hs : s.length ≤ 1000) (h : 0 < s.length) : wrap64 (Int.tdiv (wrap64 ((s.length : Int) - 1)) 2) = (((s.length - 1) / 2 : Nat) : Int) := by
  have e1 : wrap64 ((s.length : Int) - 1) = ((s.length - 1 : Nat) : Int) := by rw [w64 (by omega) (by omega)]; omega
  rw [e1, Int.tdiv_eq_ediv_of_nonneg (by omega), w64 (by omega) (by omega)]; omega
theorem med_outA (l : List Int) (hl : l.length ≤ 100) (d : Nat) : ∀ (k i : Nat) (s : List Int), i ≤ l.length → l.length - i = d → s.length = i → d * 200 + 200 < k → spec_CoordMedianA.l0 k l s (i : Int) = some (medOf ((l.drop i).foldl (fun s x => ins x s) s)) := by
  induction d with
  | zero =>
    intro k i s h0 h1 h2 h3
    obtain ⟨k, rfl⟩ : ∃ m, k = m + 1 := ⟨k - 1, by omega⟩
    obtain rfl : i = l.length := by omega
    rw [List.drop_length, List.foldl_nil]
    simp only [spec_CoordMedianA.l0, medOf]
    rw [if_neg (by omega)]
    by_cases hz : s.length = 0
    · rw [if_pos (by omega), if_pos hz]
    · rw [if_neg (by omega), if_neg hz, med_idx s (by omega) (by omega), if_pos (by omega), if_pos (by omega)]
  | succ d ih =>
    intro k i s h0 h1 h2 h3
    obtain ⟨k, rfl⟩ : ∃ m, k = m + 1 := ⟨k - 1, by omega⟩
    have hi : i < l.length := by omega
    have hp := insP_le l[i] s
    simp only [spec_CoordMedianA.l0]
    rw [if_pos (by omega)]
    have h4 := med_inA l s i (insP l[i] s) hi (by omega) (by omega) hp (insP_lt l[i] s) (insP_at l[i] s) (insP l[i] s) k 0 (Nat.zero_le _) (Nat.sub_zero _) (by omega)
    rw [← ins_eq] at h4
    refine h4.trans ?_
    rw [List.drop_eq_getElem_cons hi, List.foldl_cons]
    have h5 := ins_length l[i] s
    clear h4
    generalize insP l[i] s = p at hp ⊢
    generalize ins l[i] s = q at h5 ⊢
    have g1 : i + 1 ≤ l.length := by omega
    have g2 : l.length - (i + 1) = d := by omega
    have g3 : q.length = i + 1 := by omega
    have g4 : d * 200 + 200 < k - p - 1 := by omega
    exact ih (k - p - 1) (i + 1) q g1 g2 g3 g4
theorem med_inB (l s : List Int) (i p : Nat) (hi : i < l.length) (hl : l.length ≤ 1000) (hs : s.length ≤ 1000) (hp : p ≤ s.length) (hlt : ∀ (j : Nat) (h : j < s.length), j < p → s[j] ≤ l[i]) (hat : ∀ h : p < s.length, ¬ (s[p]'h) ≤ l[i]) (d : Nat) : ∀ (k j : Nat), j ≤ p → p - j = d → d < k → spec_CoordMedianB.l1 k l s (i : Int) (j : Int) = spec_CoordMedianB.l0 (k - d - 1) l (s.take p ++ [l[i]] ++ s.drop p) ((i + 1 : Nat) : Int) := by
  induction d with
  | zero =>
    intro k j h0 h1 h2
    obtain ⟨k, rfl⟩ : ∃ m, k = m + 1 := ⟨k - 1, by omega⟩
    obtain rfl : j = p := by omega
    rw [show k + 1 - 0 - 1 = k by omega]
    have wi : wrap64 ((i : Int) + 1) = ((i + 1 : Nat) : Int) := by rw [w64 (by omega) (by omega)]; omega
    have b0 : (0 : Int) ≤ (j : Int) := by omega
    have b1 : (0 : Int) ≤ (i : Int) := by omega
    have b2 : (i : Int) < (l.length : Int) := by omega
    have b3 : (j : Int) ≤ (s.length : Int) := by omega
    have b4 : ([] : List Int).length + (s.take j).length < 17592186044416 := by rw [List.length_nil, List.length_take]; omega
    have b5 : (s.take j).length + [l[i]].length < 17592186044416 := by rw [List.length_singleton, List.length_take]; omega
    have b6 : (s.take j ++ [l[i]]).length + (s.drop j).length < 17592186044416 := by rw [List.length_append, List.length_singleton, List.length_take, List.length_drop]; omega
    simp only [spec_CoordMedianB.l1, wi, Option.bind_some, Int.toNat_natCast, List.nil_append, rdM l i hi]
    clear wi
    by_cases h : j < s.length
    · have b7 : (j : Int) < (s.length : Int) := by omega
      have h3 := hat h
      rw [if_pos b7, if_pos b0, if_pos b1, if_pos b2, rdM s _ h, if_neg h3, if_pos b3, if_pos b4, if_pos b5, if_pos b6]
    · have b7 : ¬ (j : Int) < (s.length : Int) := by omega
      rw [if_neg b7, if_pos b0, if_pos b3, if_pos b4, if_pos b1, if_pos b2, if_pos b5, if_pos b6]
  | succ d ih =>
    intro k j h0 h1 h2
    obtain ⟨k, rfl⟩ : ∃ m, k = m + 1 := ⟨k - 1, by omega⟩
    have hj : j < s.length := by omega
    have hjp : j < p := by omega
    have e9 : k + 1 - (d + 1) - 1 = k - d - 1 := by omega
    have b0 : (0 : Int) ≤ (j : Int) := by omega
    have b1 : (0 : Int) ≤ (i : Int) := by omega
    have b2 : (i : Int) < (l.length : Int) := by omega
    have b7 : (j : Int) < (s.length : Int) := by omega
    have ih' := ih k (j + 1) (by omega) (by omega) (by omega)
    have wj : wrap64 ((j : Int) + 1) = ((j + 1 : Nat) : Int) := by rw [w64 (by omega) (by omega)]; omega
    simp only [spec_CoordMedianB.l1, wj]
    clear wj
    have h3 := hlt j hj hjp
    rw [if_pos b7, if_pos b0, if_pos b1, if_pos b2, rdM s j hj, rdM l i hi, if_pos h3, e9]
    exact ih'
theorem med_outB (l : List Int) (hl : l.length ≤ 100) (d : Nat) : ∀ (k i : Nat) (s : List Int), i ≤ l.length → l.length - i = d → s.length = i → d * 200 + 200 < k → spec_CoordMedianB.l0 k l s (i : Int) = some (medOf ((l.drop i).foldl (fun s x => ins x s) s)) := by
  induction d with
  | zero =>
    intro k i s h0 h1 h2 h3
    obtain ⟨k, rfl⟩ : ∃ m, k = m + 1 := ⟨k - 1, by omega⟩
    obtain rfl : i = l.length := by omega
    rw [List.drop_length, List.foldl_nil]
    simp only [spec_CoordMedianB.l0, medOf]
    rw [if_neg (by omega)]
    by_cases hz : s.length = 0
    · rw [if_pos (by omega), if_pos hz]
    · rw [if_neg (by omega), if_neg hz, med_idx s (by omega) (by omega), if_pos (by omega), if_pos (by omega)]
  | succ d ih =>
    intro k i s h0 h1 h2 h3
    obtain ⟨k, rfl⟩ : ∃ m, k = m + 1 := ⟨k - 1, by omega⟩
    have hi : i < l.length := by omega
    have hp := insP_le l[i] s
    simp only [spec_CoordMedianB.l0]
    rw [if_pos (by omega)]
    have h4 := med_inB l s i (insP l[i] s) hi (by omega) (by omega) hp (insP_lt l[i] s) (insP_at l[i] s) (insP l[i] s) k 0 (Nat.zero_le _) (Nat.sub_zero _) (by omega)
    rw [← ins_eq] at h4
    refine h4.trans ?_
    rw [List.drop_eq_getElem_cons hi, List.foldl_cons]
    have h5 := ins_length l[i] s
    clear h4
    generalize insP l[i] s = p at hp ⊢
    generalize ins l[i] s = q at h5 ⊢
    have g1 : i + 1 ≤ l.length := by omega
    have g2 : l.length - (i + 1) = d := by omega
    have g3 : q.length = i + 1 := by omega
    have g4 : d * 200 + 200 < k - p - 1 := by omega
    exact ih (k - p - 1) (i + 1) q g1 g2 g3 g4
def med3 (l : List Int) : Int := medOf ((l.drop (l.length - 3)).foldl (fun s x => ins x s) [])
theorem s_med (l : List Int) (hl : l.length ≤ 100000000) (k : Nat) (hk : 1000 ≤ k) : spec_CoordMedian.f k l = some (med3 l) := by
  have hd : (l.drop (l.length - 3)).length ≤ 3 := by rw [List.length_drop]; omega
  simp only [spec_CoordMedian.f, med3]
  by_cases h : (l.length : Int) > 3
  · have e1 : wrap64 ((l.length : Int) - 3) = ((l.length - 3 : Nat) : Int) := by rw [w64 (by omega) (by omega)]; omega
    have := med_outB (l.drop (l.length - 3)) (by omega) (l.drop (l.length - 3)).length k 0 [] (by omega) (by omega) rfl (by omega)
    rw [List.drop_zero] at this
    rw [if_pos h]
    simp only [spec_CoordMedianB.f, e1, Int.toNat_natCast]
    rw [if_pos h, if_pos (by omega), if_pos (by omega), show ((0 : Int)) = ((0 : Nat) : Int) from rfl, this]; rfl
  · have e : l.drop (l.length - 3) = l := by rw [show l.length - 3 = 0 by omega, List.drop_zero]
    rw [e] at hd ⊢
    have := med_outA l (by omega) l.length k 0 [] (by omega) (by omega) rfl (by omega)
    rw [List.drop_zero] at this
    rw [if_neg h]
    simp only [spec_CoordMedianA.f]
    rw [if_neg h, show ((0 : Int)) = ((0 : Nat) : Int) from rfl, this]; rfl
theorem less_eq (a b : Int) : cmp_Less_int.f a b = some (decide (a < b)) := by
  simp only [cmp_Less_int.f, cmp_isNaN_int.f, Option.bind_some, bne_self_eq_false, Bool.false_eq_true, if_false]
theorem srt_in (l : List Int) (h3 : l.length ≤ 3) (k : Nat) : slices_insertionSortOrdered_int.f (k + 20) l 0 (l.length : Int) = some (l.foldl (fun s x => ins x s) []) := by
  have e0 : wrap64 (0 + 1) = 1 := w64 (by omega) (by omega)
  have e1 : wrap64 (1 + 1) = 2 := w64 (by omega) (by omega)
  have e2 : wrap64 (2 + 1) = 3 := w64 (by omega) (by omega)
  have e3 : wrap64 (1 - 1) = 0 := w64 (by omega) (by omega)
  have e4 : wrap64 (2 - 1) = 1 := w64 (by omega) (by omega)
  have o1 : ∀ (k : Nat) (x y : Int), slices_insertionSortOrdered_int.l0 (k + 1) [x, y] 0 2 1 = slices_insertionSortOrdered_int.l1 k [x, y] 0 2 1 1 := fun k x y => by
    simp only [slices_insertionSortOrdered_int.l0]; rw [if_pos (by decide)]
  have o2 : ∀ (k : Nat) (x y : Int), slices_insertionSortOrdered_int.l0 (k + 1) [x, y] 0 2 2 = some [x, y] := fun k x y => by
    simp only [slices_insertionSortOrdered_int.l0]; rw [if_neg (by decide)]
  have o3 : ∀ (k : Nat) (x y : Int), slices_insertionSortOrdered_int.l1 (k + 1) [x, y] 0 2 1 0 = slices_insertionSortOrdered_int.l0 k [x, y] 0 2 2 := fun k x y => by
    simp only [slices_insertionSortOrdered_int.l1, e1]; rw [if_neg (by decide)]
  have o4 : ∀ (k : Nat) (x y : Int), slices_insertionSortOrdered_int.l1 (k + 1) [x, y] 0 2 1 1 = if y < x then slices_insertionSortOrdered_int.l1 k [y, x] 0 2 1 0 else slices_insertionSortOrdered_int.l0 k [x, y] 0 2 2 := fun k x y => by
    simp only [slices_insertionSortOrdered_int.l1, e1, e3]
    rw [if_pos (by decide), if_pos (by decide), if_pos (by simp), if_pos (by decide), if_pos (by simp), show rd [x, y] 1 = y from rfl, show rd [x, y] 0 = x from rfl, less_eq]
    by_cases h : y < x
    · rw [if_pos h, decide_eq_true h]; rfl
    · rw [if_neg h, decide_eq_false h]; rfl
  have p1 : ∀ (k : Nat) (x y z : Int), slices_insertionSortOrdered_int.l0 (k + 1) [x, y, z] 0 3 1 = slices_insertionSortOrdered_int.l1 k [x, y, z] 0 3 1 1 := fun k x y z => by
    simp only [slices_insertionSortOrdered_int.l0]; rw [if_pos (by decide)]
  have p2 : ∀ (k : Nat) (x y z : Int), slices_insertionSortOrdered_int.l0 (k + 1) [x, y, z] 0 3 2 = slices_insertionSortOrdered_int.l1 k [x, y, z] 0 3 2 2 := fun k x y z => by
    simp only [slices_insertionSortOrdered_int.l0]; rw [if_pos (by decide)]
  have p3 : ∀ (k : Nat) (x y z : Int), slices_insertionSortOrdered_int.l0 (k + 1) [x, y, z] 0 3 3 = some [x, y, z] := fun k x y z => by
    simp only [slices_insertionSortOrdered_int.l0]; rw [if_neg (by decide)]
  have p4 : ∀ (k : Nat) (x y z i : Int), slices_insertionSortOrdered_int.l1 (k + 1) [x, y, z] 0 3 i 0 = slices_insertionSortOrdered_int.l0 k [x, y, z] 0 3 (wrap64 (i + 1)) := fun k x y z i => by
    simp only [slices_insertionSortOrdered_int.l1]; rw [if_neg (by decide)]
  have p5 : ∀ (k : Nat) (x y z i : Int), slices_insertionSortOrdered_int.l1 (k + 1) [x, y, z] 0 3 i 1 = if y < x then slices_insertionSortOrdered_int.l1 k [y, x, z] 0 3 i 0 else slices_insertionSortOrdered_int.l0 k [x, y, z] 0 3 (wrap64 (i + 1)) := fun k x y z i => by
    simp only [slices_insertionSortOrdered_int.l1, e3]
    rw [if_pos (by decide), if_pos (by decide), if_pos (by simp), if_pos (by decide), if_pos (by simp), show rd [x, y, z] 1 = y from rfl, show rd [x, y, z] 0 = x from rfl, less_eq]
    by_cases h : y < x
    · rw [if_pos h, decide_eq_true h]; rfl
    · rw [if_neg h, decide_eq_false h]; rfl
  have p6 : ∀ (k : Nat) (x y z i : Int), slices_insertionSortOrdered_int.l1 (k + 1) [x, y, z] 0 3 i 2 = if z < y then slices_insertionSortOrdered_int.l1 k [x, z, y] 0 3 i 1 else slices_insertionSortOrdered_int.l0 k [x, y, z] 0 3 (wrap64 (i + 1)) := fun k x y z i => by
    simp only [slices_insertionSortOrdered_int.l1, e4]
    rw [if_pos (by decide), if_pos (by decide), if_pos (by simp), if_pos (by decide), if_pos (by simp), show rd [x, y, z] 2 = z from rfl, show rd [x, y, z] 1 = y from rfl, less_eq]
    by_cases h : z < y
    · rw [if_pos h, decide_eq_true h]; rfl
    · rw [if_neg h, decide_eq_false h]; rfl
  unfold slices_insertionSortOrdered_int.f
  rw [e0]
  match l, h3 with
  | [], _ =>
    simp only [slices_insertionSortOrdered_int.l0]; rw [if_neg (by decide)]; rfl
  | [a], _ =>
    show slices_insertionSortOrdered_int.l0 (k + 20) [a] 0 1 1 = some [a]
    simp only [slices_insertionSortOrdered_int.l0]; rw [if_neg (by decide)]
  | [a, b], _ =>
    show slices_insertionSortOrdered_int.l0 (k + 20) [a, b] 0 2 1 = some (if a ≤ b then [a, b] else [b, a])
    rw [o1, o4]
    by_cases h : b < a
    · rw [if_pos h, o3, o2, if_neg (by omega)]
    · rw [if_neg h, o2, if_pos (by omega)]
  | [a, b, c], _ =>
    show slices_insertionSortOrdered_int.l0 (k + 20) [a, b, c] 0 3 1 = some (ins c (if a ≤ b then [a, b] else [b, a]))
    rw [p1, p5]
    by_cases h : b < a
    · rw [if_pos h, p4, e1, p2, p6, if_neg (show ¬ a ≤ b by omega)]
      by_cases g : c < a
      · rw [if_pos g, p5]
        by_cases f : c < b
        · rw [if_pos f, p4, e2, p3]
          simp only [ins]
          rw [if_neg (by omega)]
        · rw [if_neg f, e2, p3]
          simp only [ins]
          rw [if_pos (by omega), if_neg (by omega)]
      · rw [if_neg g, e2, p3]
        simp only [ins]
        rw [if_pos (by omega), if_pos (by omega)]
    · rw [if_neg h, e1, p2, p6, if_pos (show a ≤ b by omega)]
      by_cases g : c < b
      · rw [if_pos g, p5]
        by_cases f : c < a
        · rw [if_pos f, p4, e2, p3]
          simp only [ins]
          rw [if_neg (by omega)]
        · rw [if_neg f, e2, p3]
          simp only [ins]
          rw [if_pos (by omega), if_neg (by omega)]
      · rw [if_neg g, e2, p3]
        simp only [ins]
        rw [if_pos (by omega), if_pos (by omega)]
theorem fold_length : ∀ (m s : List Int), (m.foldl (fun s x => ins x s) s).length = s.length + m.length
  | [], s => rfl
  | y :: ys, s => by rw [List.foldl_cons, fold_length ys, ins_length, List.length_cons]; omega
theorem cut_idx (n : Nat) (hn : n ≤ 100000000) : mx (wrap64 ((n : Int) - 3)) 0 = ((n - 3 : Nat) : Int) := by
  rw [w64 (n := (n : Int) - 3) (by omega) (by omega)]; unfold mx; split <;> omega
theorem len_sub (n : Nat) (hn : n ≤ 3) : wrap64 ((n : Int) - 0) = (n : Int) := by rw [w64 (by omega) (by omega)]; omega
theorem i_pdq (m : List Int) (hd : m.length ≤ 3) (k : Nat) (v : Int) : slices_pdqsortOrdered_int.f (k + 21) m 0 (m.length : Int) v = some (m.foldl (fun s x => ins x s) []) := by
  have b4 : (m.length : Int) ≤ 12 := by omega
  have hs := srt_in m hd k
  generalize m.foldl (fun s x => ins x s) [] = q at hs ⊢
  unfold slices_pdqsortOrdered_int.f
  show slices_pdqsortOrdered_int.l0 ((k + 20) + 1) m 0 (m.length : Int) = some q
  generalize k + 20 = K at hs ⊢
  rw [slices_pdqsortOrdered_int.l0, len_sub m.length hd, if_pos b4, hs, Option.bind_some]
theorem i_srt (m : List Int) (hd : m.length ≤ 3) (k : Nat) : slices_Sorted_int.f (k + 21) m = some (m.foldl (fun s x => ins x s) []) := by
  have hp := i_pdq m hd k
  generalize m.foldl (fun s x => ins x s) [] = q at hp ⊢
  generalize k + 21 = K at hp ⊢
  have b3 : ([] : List Int).length + m.length < 17592186044416 := by rw [List.length_nil]; omega
  unfold slices_Sorted_int.f
  rw [Option.bind_some, if_pos b3, List.nil_append]
  unfold slices_Sort_int_int.f bits_Len.f
  rw [Option.bind_some, hp, Option.bind_some, Option.bind_some]
theorem med_pick (s : List Int) (hs : s.length ≤ 3) : (if (s.length : Int) = 0 then some 0 else if 0 ≤ wrap64 (Int.tdiv (wrap64 ((s.length : Int) - 1)) 2) then (if wrap64 (Int.tdiv (wrap64 ((s.length : Int) - 1)) 2) < (s.length : Int) then some (rd s (wrap64 (Int.tdiv (wrap64 ((s.length : Int) - 1)) 2))) else none) else none) = some (medOf s) := by
  unfold medOf
  by_cases hz : s.length = 0
  · rw [if_pos (by omega), if_pos hz]
  · rw [if_neg (by omega), if_neg hz, med_idx s (by omega) (by omega), if_pos (by omega), if_pos (by omega)]
theorem i_med (l : List Int) (hl : l.length ≤ 100000000) (k : Nat) : impl_CoordMedian.f (k + 21) l = some (med3 l) := by
  have hd : (l.drop (l.length - 3)).length ≤ 3 := by rw [List.length_drop]; omega
  have b1 : (0 : Int) ≤ ((l.length - 3 : Nat) : Int) := by omega
  have b2 : ((l.length - 3 : Nat) : Int) ≤ (l.length : Int) := by omega
  have hlen : ((l.drop (l.length - 3)).foldl (fun s x => ins x s) []).length ≤ 3 := by rw [fold_length, List.length_nil]; omega
  simp only [impl_CoordMedian.f, cut_idx l.length hl, Int.toNat_natCast, i_srt _ hd k, Option.bind_some]
  rw [if_pos b1, if_pos b2]
  exact med_pick _ hlen

theorem trips_loop (b : List Int) (d : Nat) : ∀ (acc : List Int) (p : Int), acc.length + d ≤ 100 → Rdr b p → p ≤ 90000 - d → ∃ t, t.length = acc.length + d ∧ ∀ k, d < k → spec_DrawCoordMedian.l0 k acc (d : Int) b p = some t := by
  induction d with
  | zero =>
    intro acc p h1 hR hp
    refine ⟨acc, rfl, fun k hk => ?_⟩
    obtain ⟨k, rfl⟩ : ∃ m, k = m + 1 := ⟨k - 1, by omega⟩
    simp only [spec_DrawCoordMedian.l0]; rw [if_neg (by omega)]
  | succ d ih =>
    intro acc p h1 hR hp
    obtain ⟨v, a1, b1, -, hv⟩ := pick_ok b p 20 hR (by omega)
    obtain ⟨t, g1, g2⟩ := ih (acc ++ [wrap64 (v - 4)]) (p + 1) (by rw [List.length_append, List.length_singleton]; omega) (rdr_next hR) (by omega)
    rw [List.length_append, List.length_singleton] at g1
    refine ⟨t, by omega, fun k hk => ?_⟩
    obtain ⟨k, rfl⟩ : ∃ m, k = m + 1 := ⟨k - 1, by omega⟩
    have c1 : ((d + 1 : Nat) : Int) > 0 := by omega
    have c2 : acc.length < 17592186044416 := by omega
    have c3 : d < k := by omega
    have c4 : 1 ≤ k := by omega
    have w1 : wrap64 (((d + 1 : Nat) : Int) - 1) = (d : Int) := by rw [w64 (by omega) (by omega)]; omega
    simp only [spec_DrawCoordMedian.l0, hv k c4, Option.bind_some, w1]
    rw [if_pos c1, if_pos c2]
    exact g2 k c3
theorem count_step (t : List Int) (m : Int) (ht : t.length ≤ 1000) (k i : Nat) (hi : i < t.length) (A B : Int) (F : Bool) (hA : 0 ≤ A ∧ A ≤ 100) (hB : 0 ≤ B ∧ B ≤ 100) :
    laws_FnCoordMedian.l0 (k + 2) t m (t.length : Int) A B F (i : Int) = laws_FnCoordMedian.l0 k t m (t.length : Int) (A + if t[i] ≥ m then 1 else 0) (B + if t[i] ≤ m then 1 else 0) (F || decide (t[i] = m)) ((i + 1 : Nat) : Int) := by
  have c1 : (i : Int) < (t.length : Int) := by omega
  have c2 : (0 : Int) ≤ (i : Int) := by omega
  have wA : wrap64 (A + 1) = A + 1 := w64 (by omega) (by omega)
  have wB : wrap64 (B + 1) = B + 1 := w64 (by omega) (by omega)
  have wi : wrap64 ((i : Int) + 1) = ((i + 1 : Nat) : Int) := by rw [w64 (by omega) (by omega)]; omega
  have j2 : ∀ G : Bool, laws_FnCoordMedian.j2 (k + 1) t m (t.length : Int) A B G (i : Int) = laws_FnCoordMedian.l0 k t m (t.length : Int) (A + if t[i] ≥ m then 1 else 0) (B + if t[i] ≤ m then 1 else 0) G ((i + 1 : Nat) : Int) := by
    intro G
    simp only [laws_FnCoordMedian.j2, wA, wB, wi, rdM t i hi]
    clear wA wB wi
    rw [if_pos c2, if_pos c1]
    by_cases h1 : t[i] ≥ m
    · by_cases h2 : t[i] ≤ m
      · rw [if_pos h1, if_pos h2, if_pos h1, if_pos h2]
      · rw [if_pos h1, if_neg h2, if_pos h1, if_neg h2, Int.add_zero]
    · by_cases h2 : t[i] ≤ m
      · rw [if_neg h1, if_pos h2, if_neg h1, if_pos h2, Int.add_zero]
      · rw [if_neg h1, if_neg h2, if_neg h1, if_neg h2, Int.add_zero, Int.add_zero]
  simp only [laws_FnCoordMedian.l0, rdM t i hi]
  rw [if_pos c1]
  cases F
  · rw [if_neg (by decide), if_pos c2, if_pos c1, j2, Bool.false_or]
    congr 1
  · rw [if_pos rfl, j2, Bool.true_or]
def mid (a b c : Int) : Int := rd (ins c (if a ≤ b then [a, b] else [b, a])) 1
theorem mid_ok (a b c : Int) : (decide (a = mid a b c) || decide (b = mid a b c) || decide (c = mid a b c)) = true ∧
    2 ≤ (0 : Int) + (if a ≥ mid a b c then 1 else 0) + (if b ≥ mid a b c then 1 else 0) + (if c ≥ mid a b c then 1 else 0) ∧
    2 ≤ (0 : Int) + (if a ≤ mid a b c then 1 else 0) + (if b ≤ mid a b c then 1 else 0) + (if c ≤ mid a b c then 1 else 0) := by
  have key : ∀ m : Int, (m = a ∨ m = b ∨ m = c) → ((a ≤ m ∧ (m ≤ b ∨ m ≤ c) ∧ (b ≤ m ∨ c ≤ m) ∧ m ≤ a) ∨ (b ≤ m ∧ m ≤ b ∧ (m ≤ a ∨ m ≤ c) ∧ (a ≤ m ∨ c ≤ m)) ∨ (c ≤ m ∧ m ≤ c ∧ (m ≤ a ∨ m ≤ b) ∧ (a ≤ m ∨ b ≤ m))) →
      (decide (a = m) || decide (b = m) || decide (c = m)) = true ∧ 2 ≤ (0 : Int) + (if a ≥ m then 1 else 0) + (if b ≥ m then 1 else 0) + (if c ≥ m then 1 else 0) ∧ 2 ≤ (0 : Int) + (if a ≤ m then 1 else 0) + (if b ≤ m then 1 else 0) + (if c ≤ m then 1 else 0) := by
    intro m h1 h2
    refine ⟨?_, ?_, ?_⟩
    · simp only [Bool.or_eq_true, decide_eq_true_eq]; omega
    · split <;> split <;> split <;> omega
    · split <;> split <;> split <;> omega
  have e : mid a b c = if a ≤ b then (if a ≤ c then (if b ≤ c then b else c) else a) else (if b ≤ c then (if a ≤ c then a else c) else b) := by
    unfold mid
    by_cases h : a ≤ b
    · rw [if_pos h, if_pos h]
      simp only [ins]
      by_cases g : a ≤ c
      · rw [if_pos g, if_pos g]
        by_cases f : b ≤ c
        · rw [if_pos f, if_pos f]; rfl
        · rw [if_neg f, if_neg f]; rfl
      · rw [if_neg g, if_neg g]; rfl
    · rw [if_neg h, if_neg h]
      simp only [ins]
      by_cases g : b ≤ c
      · rw [if_pos g, if_pos g]
        by_cases f : a ≤ c
        · rw [if_pos f, if_pos f]; rfl
        · rw [if_neg f, if_neg f]; rfl
      · rw [if_neg g, if_neg g]; rfl
  rw [e]
  refine key _ ?_ ?_
  · split <;> split <;> (try split) <;> omega
  · split <;> split <;> (try split) <;> omega
theorem drop3 (t : List Int) (h : 3 ≤ t.length) : t.drop (t.length - 3) = [t[t.length - 3], t[t.length - 3 + 1], t[t.length - 3 + 2]] := by
  rw [List.drop_eq_getElem_cons (by omega), List.drop_eq_getElem_cons (by omega), List.drop_eq_getElem_cons (by omega), List.drop_eq_nil_of_le (by omega)]
theorem count_end (t : List Int) (m A B : Int) (k n : Nat) (hn : n = t.length) (hA : 2 ≤ A) (hB : 2 ≤ B) : laws_FnCoordMedian.l0 (k + 1) t m (t.length : Int) A B true (n : Int) = some true := by
  have c1 : ¬ (n : Int) < (t.length : Int) := by omega
  simp only [laws_FnCoordMedian.l0]
  rw [if_neg c1, if_pos trivial, if_pos hA, decide_eq_true hB]
theorem count_all (t : List Int) (h : 3 ≤ t.length) (ht : t.length ≤ 1000) (k : Nat) : laws_FnCoordMedian.l0 (k + 7) t (med3 t) (t.length : Int) 0 0 false ((t.length - 3 : Nat) : Int) = some true := by
  have hm : med3 t = mid t[t.length - 3] t[t.length - 3 + 1] t[t.length - 3 + 2] := by
    unfold med3
    rw [drop3 t h]
    show medOf (ins t[t.length - 3 + 2] (if t[t.length - 3] ≤ t[t.length - 3 + 1] then [t[t.length - 3], t[t.length - 3 + 1]] else [t[t.length - 3 + 1], t[t.length - 3]])) = _
    unfold medOf mid
    have e : ∀ c a b : Int, (ins c [a, b]).length = 3 := fun c a b => by rw [ins_length]; rfl
    by_cases g : t[t.length - 3] ≤ t[t.length - 3 + 1]
    · rw [if_pos g, e, if_neg (by decide)]; rfl
    · rw [if_neg g, e, if_neg (by decide)]; rfl
  obtain ⟨q1, q2, q3⟩ := mid_ok t[t.length - 3] t[t.length - 3 + 1] t[t.length - 3 + 2]
  rw [← hm] at q1 q2 q3
  have h01 : ∀ (p : Prop) [Decidable p], (0 : Int) ≤ (if p then 1 else 0) ∧ (if p then (1 : Int) else 0) ≤ 1 := fun p _ => by split <;> omega
  have s1 := count_step t (med3 t) ht (k + 5) (t.length - 3) (by omega) 0 0 false (by omega) (by omega)
  have r1 := h01 (t[t.length - 3] ≥ med3 t); have r2 := h01 (t[t.length - 3] ≤ med3 t)
  have s2 := count_step t (med3 t) ht (k + 3) (t.length - 3 + 1) (by omega) (0 + if t[t.length - 3] ≥ med3 t then 1 else 0) (0 + if t[t.length - 3] ≤ med3 t then 1 else 0) (false || decide (t[t.length - 3] = med3 t)) (by omega) (by omega)
  have r3 := h01 (t[t.length - 3 + 1] ≥ med3 t); have r4 := h01 (t[t.length - 3 + 1] ≤ med3 t)
  have s3 := count_step t (med3 t) ht (k + 1) (t.length - 3 + 1 + 1) (by omega) (0 + (if t[t.length - 3] ≥ med3 t then 1 else 0) + if t[t.length - 3 + 1] ≥ med3 t then 1 else 0) (0 + (if t[t.length - 3] ≤ med3 t then 1 else 0) + if t[t.length - 3 + 1] ≤ med3 t then 1 else 0) (false || decide (t[t.length - 3] = med3 t) || decide (t[t.length - 3 + 1] = med3 t)) (by omega) (by omega)
  refine s1.trans (s2.trans (s3.trans ?_))
  rw [Bool.false_or]
  show laws_FnCoordMedian.l0 (k + 1) t (med3 t) (t.length : Int) _ _ (decide (t[t.length - 3] = med3 t) || decide (t[t.length - 3 + 1] = med3 t) || decide (t[t.length - 3 + 2] = med3 t)) _ = _
  rw [q1]
  exact count_end t (med3 t) _ _ k _ (by omega) q2 q3
theorem FnCoordMedian : laws_FnCoordMedian.Pure := by
  intro l0 hl1 hl2 hl3
  obtain ⟨b, hR, ho⟩ := open_ok l0 hl3
  obtain ⟨v, a1, b1, -, hv⟩ := pick_ok b 0 6 hR (by omega)
  have b1 := b1 (by omega)
  obtain ⟨t, g1, g2⟩ := trips_loop b v.toNat [] (0 + 1) (by simp; omega) (rdr_next hR) (by omega)
  rw [Int.toNat_of_nonneg a1] at g2
  have ht : t.length ≤ 5 := by simp at g1; omega
  obtain ⟨K, hK⟩ : ∃ K : Nat, 1200 < K := ⟨1201, by omega⟩
  refine ⟨K + 21, ?_⟩
  have d1 : 1 ≤ K + 21 := by omega
  have d2 : v.toNat < K + 21 := by omega
  have d3 : t.length ≤ 100000000 := by omega
  have d4 : 1000 ≤ K + 21 := by omega
  have m5 : med3 [5, 1, 3] = 3 := by decide
  simp only [laws_FnCoordMedian.f]
  by_cases h0 : (l0.length : Int) > 1048576
  · rw [if_pos h0]
  · rw [if_neg h0]
    simp only [spec_DrawCoordMedian.f, ho, hv (K + 21) d1, g2 (K + 21) d2, Option.bind_some, i_med t d3 K, s_med t d3 (K + 21) d4, i_med [5, 1, 3] (by simp) K, m5, if_true, bne_self_eq_false]
    obtain ⟨J, rfl⟩ : ∃ J, K = J + 8 := ⟨K - 8, by omega⟩
    show laws_FnCoordMedian.j0 ((J + 28) + 1) t (med3 t) false = some true
    simp only [laws_FnCoordMedian.j0, Bool.false_eq_true, if_false]
    by_cases h1 : (t.length : Int) < 3
    · rw [if_pos h1]
      by_cases h2 : (t.length : Int) > 0
      · rw [if_pos h2]
      · have : t = [] := List.eq_nil_of_length_eq_zero (by omega)
        subst this
        rw [if_neg h2]
        rfl
    · have h3 : 3 ≤ t.length := by omega
      have h4 : t.length ≤ 1000 := by omega
      have w1 : wrap64 ((t.length : Int) - 3) = ((t.length - 3 : Nat) : Int) := by rw [w64 (by omega) (by omega)]; omega
      rw [if_neg h1, w1]
      exact count_all t h3 h4 (J + 21)
end Go.Proofs.Ytbpapiejmedkeaa.Pure
