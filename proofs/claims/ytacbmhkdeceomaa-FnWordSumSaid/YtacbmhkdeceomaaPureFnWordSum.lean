/- The sum of a drawn text is the reference's, in its range, and that of the text whose sum is known. Conditions: the bytes' number is within the row's reach. -/
import Derived.Test.YtacbmhkdeceomaaPFnWordSumx
set_option linter.unusedVariables false
set_option linter.unusedSimpArgs false
namespace Go.Proofs.Ytacbmhkdeceomaa.Pure
open Go.RowKit Go.Proofs.Ytacbmhkdeceomaa.PFnWordSum Go.Proofs.YtacbmhkdeceomaaW.PrintWords Go.Proofs.YtacbmhkdeceomaaW.PrintLast Go.Proofs.YtacbmhkdeceomaaW.PrintMore
theorem w64 {n : Int} (h : -9223372036854775808 ≤ n) (h' : n ≤ 9223372036854775807) : wrap64 n = n := by unfold wrap64; omega
theorem lt_ge (a b : Int) : a < b ∨ b ≤ a := by omega
/-! drawing -/
theorem i64_xor (a b : Int) (h1 : 0 ≤ a) (h2 : a < 9223372036854775808) (h3 : 0 ≤ b) (h4 : b < 9223372036854775808) : Go.bits .xor .i64 a b = ((a.toNat ^^^ b.toNat : Nat) : Int) := by
  obtain ⟨a, rfl⟩ := Int.eq_ofNat_of_zero_le h1
  obtain ⟨b, rfl⟩ := Int.eq_ofNat_of_zero_le h3
  have ha' : a % 2 ^ IntKind.i64.bits = a := Nat.mod_eq_of_lt (by show a < 2 ^ 64; omega)
  have hb' : b % 2 ^ IntKind.i64.bits = b := Nat.mod_eq_of_lt (by show b < 2 ^ 64; omega)
  have hx : a ^^^ b < 2 ^ 63 := Nat.xor_lt_two_pow (by omega) (by omega)
  simp only [Go.bits, BitVec.ofInt_natCast, BitVec.toNat_xor, BitVec.toNat_ofNat, ha', hb', Int.toNat_natCast]
  rw [IntKind.wrap_i64]
  omega
/-- The reader's bytes and its place. -/
def Rdr (b : List Int) (p : Int) : Prop := (∀ x ∈ b, 0 ≤ x ∧ x ≤ 255) ∧ b.length ≤ 2000 ∧ 0 ≤ p
theorem rd_byte {b : List Int} (h : ∀ x ∈ b, 0 ≤ x ∧ x ≤ 255) (i : Int) : 0 ≤ rd b i ∧ rd b i ≤ 255 := by
  unfold rd
  rw [List.getD_eq_getElem?_getD]
  rcases hq : b[i.toNat]? with _ | x
  · simp
  · exact h x (List.mem_of_getElem? hq)
theorem tmod_bd {a n : Int} (ha : 0 ≤ a) (hn : 0 < n) : 0 ≤ Int.tmod a n ∧ Int.tmod a n < n := ⟨Int.tmod_nonneg _ ha, Int.tmod_lt_of_pos _ hn⟩
theorem pick_ok (b : List Int) (p n : Int) (hR : Rdr b p) (hp : p ≤ 1000000) : ∃ v, 0 ≤ v ∧ (0 < n → v < n) ∧ (n < 1 → v = 0) ∧ ∀ k, 1 ≤ k → spec_l1Rd_pick.f k b p n = some (v, p + 1) := by
  obtain ⟨hb, hl, h0⟩ := hR
  have e1 : wrap64 (p + 1) = p + 1 := w64 (by omega) (by omega)
  by_cases hn : n < 1
  · refine ⟨0, by omega, by omega, fun _ => rfl, fun k hk => ?_⟩
    obtain ⟨k, rfl⟩ : ∃ m, k = m + 1 := ⟨k - 1, by omega⟩
    simp only [spec_l1Rd_pick.f, spec_l1Rd_pick.j0]
    rw [if_pos hn, if_pos trivial, e1]
  · have e2 : wrap64 (p + 1 - 1) = p := by rw [w64 (by omega) (by omega)]; omega
    by_cases hz : b.length = 0
    · refine ⟨0, by omega, by omega, fun _ => rfl, fun k hk => ?_⟩
      obtain ⟨k, rfl⟩ : ∃ m, k = m + 1 := ⟨k - 1, by omega⟩
      simp only [spec_l1Rd_pick.f, spec_l1Rd_pick.j0]
      rw [if_neg hn, if_pos (beq_iff_eq.mpr (by omega)), e1]
    · have hz' : ((b.length : Int) == 0) = false := beq_eq_false_iff_ne.mpr (by omega)
      by_cases hlt : p < (b.length : Int)
      · obtain ⟨r1, r2⟩ := rd_byte hb p
        obtain ⟨m1, m2⟩ := tmod_bd r1 (show 0 < n by omega)
        refine ⟨Int.tmod (rd b p) n, m1, fun _ => m2, by omega, fun k hk => ?_⟩
        obtain ⟨k, rfl⟩ : ∃ m, k = m + 1 := ⟨k - 1, by omega⟩
        simp only [spec_l1Rd_pick.f, spec_l1Rd_pick.j0, hz', e1, e2]
        rw [if_neg hn, if_neg (by decide), if_pos hlt, if_pos h0, if_neg (by omega), w64 (n := rd b p) (by omega) (by omega)]
      · have e3 : wrap64 (p * 7) = p * 7 := w64 (by omega) (by omega)
        have e4 : wrap64 (p * 7 + 3) = p * 7 + 3 := w64 (by omega) (by omega)
        have e5 : wrap64 (p * 29) = p * 29 := w64 (by omega) (by omega)
        obtain ⟨i, hi⟩ : ∃ i, i = Int.tmod p (b.length : Int) := ⟨_, rfl⟩
        obtain ⟨j, hj⟩ : ∃ j, j = Int.tmod (p * 7 + 3) (b.length : Int) := ⟨_, rfl⟩
        obtain ⟨i1, i2⟩ := tmod_bd h0 (show 0 < (b.length : Int) by omega)
        obtain ⟨j1, j2⟩ := tmod_bd (show 0 ≤ p * 7 + 3 by omega) (show 0 < (b.length : Int) by omega)
        rw [← hi] at i1 i2
        rw [← hj] at j1 j2
        obtain ⟨a1, a2⟩ := rd_byte hb i
        obtain ⟨c1, c2⟩ := rd_byte hb j
        obtain ⟨q, hq⟩ : ∃ q, q = Int.tdiv p (b.length : Int) := ⟨_, rfl⟩
        have q1 : 0 ≤ q ∧ q ≤ p := by
          rw [hq, Int.tdiv_eq_ediv_of_nonneg h0]
          exact ⟨Int.ediv_nonneg h0 (by omega), Int.ediv_le_self _ h0⟩
        have f1 : wrap64 (rd b i) = rd b i := w64 (by omega) (by omega)
        have f2 : wrap64 (rd b j) = rd b j := w64 (by omega) (by omega)
        have f3 : wrap64 (rd b i * 131) = rd b i * 131 := w64 (by omega) (by omega)
        have f4 : wrap64 (rd b j * 1117) = rd b j * 1117 := w64 (by omega) (by omega)
        have f5 : wrap64 q = q := w64 (by omega) (by omega)
        have f6 : wrap64 (q * 53) = q * 53 := w64 (by omega) (by omega)
        have f7 : wrap64 (rd b i * 131 + rd b j * 1117) = rd b i * 131 + rd b j * 1117 := w64 (by omega) (by omega)
        have f8 : wrap64 (rd b i * 131 + rd b j * 1117 + p * 29) = rd b i * 131 + rd b j * 1117 + p * 29 := w64 (by omega) (by omega)
        obtain ⟨x, hx⟩ : ∃ x, x = rd b i * 131 + rd b j * 1117 + p * 29 + q * 53 := ⟨_, rfl⟩
        have f9 : wrap64 (rd b i * 131 + rd b j * 1117 + p * 29 + q * 53) = x := by rw [hx]; exact w64 (by omega) (by omega)
        have x1 : 0 ≤ x := by omega
        have x2 : x ≤ 100000000 := by omega
        have f10 : wrap64 (Int.tdiv x 64) = x / 64 := by rw [Int.tdiv_eq_ediv_of_nonneg x1]; exact w64 (by omega) (by omega)
        have f11 := i64_xor x (x / 64) x1 (by omega) (by omega) (by omega)
        obtain ⟨m1, m2⟩ := tmod_bd (Int.natCast_nonneg (x.toNat ^^^ (x / 64).toNat)) (show 0 < n by omega)
        refine ⟨Int.tmod ((x.toNat ^^^ (x / 64).toNat : Nat) : Int) n, m1, fun _ => m2, by omega, fun k hk => ?_⟩
        obtain ⟨k, rfl⟩ : ∃ m, k = m + 1 := ⟨k - 1, by omega⟩
        simp only [spec_l1Rd_pick.f, spec_l1Rd_pick.j0, hz', e1, e2, e3, e4, e5, ← hi, ← hj, ← hq, f1, f2, f3, f4, f5, f6, f7, f8, f9, f10, f11]
        rw [if_neg hn, if_neg (by decide), if_neg hlt, if_neg (by omega), if_pos i1, if_pos i2, if_pos j1, if_pos j2, if_neg (by omega)]
theorem rdr_next {b : List Int} {p : Int} (h : Rdr b p) : Rdr b (p + 1) := ⟨h.1, h.2.1, by have := h.2.2; omega⟩
theorem open_ok (l : List Int) (hl : ∀ x ∈ l, (Lit.int .u8 x).wf = true) : ∃ b, Rdr b 0 ∧ spec_l1Open.f l = some (b, 0) := by
  have hw : ∀ x ∈ l, 0 ≤ x ∧ x ≤ 255 := by
    intro x hx
    have := hl x hx
    have h2 := (Bool.and_eq_true _ _).mp this
    have h3 := of_decide_eq_true h2.1
    have h4 := of_decide_eq_true h2.2
    exact ⟨h3, h4⟩
  simp only [spec_l1Open.f]
  by_cases h : (l.length : Int) > 2000
  · rw [if_pos h, if_pos (by omega)]
    exact ⟨l.take 2000, ⟨fun x hx => hw x (List.mem_of_mem_take hx), by rw [List.length_take]; omega, by omega⟩, rfl⟩
  · rw [if_neg h]
    exact ⟨l, ⟨hw, by omega, by omega⟩, rfl⟩
/-! the sum -/
theorem nat_xor (a b : Nat) (ha : a < 9223372036854775808) (hb : b < 9223372036854775808) : Go.bits .xor .i64 (a : Int) (b : Int) = ((a ^^^ b : Nat) : Int) := by
  have ha' : a % 2 ^ IntKind.i64.bits = a := Nat.mod_eq_of_lt (by show a < 2 ^ 64; omega)
  have hb' : b % 2 ^ IntKind.i64.bits = b := Nat.mod_eq_of_lt (by show b < 2 ^ 64; omega)
  have hx : a ^^^ b < 2 ^ 63 := Nat.xor_lt_two_pow (by omega) (by omega)
  simp only [Go.bits, BitVec.ofInt_natCast, BitVec.toNat_xor, BitVec.toNat_ofNat, ha', hb']
  rw [IntKind.wrap_i64]
  omega
theorem nat_and1 (n : Int) : Go.bits .and .i64 n 1 = n % 2 := by
  have h1 : (BitVec.ofInt 64 1).toNat = 2 ^ 1 - 1 := by decide
  have key : (BitVec.ofInt 64 n &&& BitVec.ofInt 64 1).toNat = (n % ((2 ^ 64 : Nat) : Int)).toNat % 2 ^ 1 := by
    rw [BitVec.toNat_and, BitVec.toNat_ofInt, h1, Nat.and_two_pow_sub_one_eq_mod]
  show IntKind.i64.wrap ((BitVec.ofInt 64 n &&& BitVec.ofInt 64 1).toNat : Nat) = n % 2
  rw [key, IntKind.wrap_i64]
  omega
def st (n : Nat) : Nat := if n % 2 = 1 then (n / 2) ^^^ 3988292384 else n / 2
theorem st_lt {n : Nat} (h : n < 2 ^ 32) : st n < 2 ^ 32 := by
  unfold st
  split
  · exact Nat.xor_lt_two_pow (by omega) (by omega)
  · omega
def rep : Nat → Nat → Nat
  | 0, n => n
  | j + 1, n => rep j (st n)
theorem rep_lt : ∀ (j n : Nat), n < 2 ^ 32 → rep j n < 2 ^ 32
  | 0, _, h => h
  | j + 1, n, h => rep_lt j (st n) (st_lt h)
theorem s_bits : ∀ (j k n : Nat) (i : Int), n < 2 ^ 32 → j < k → i = 8 - j → j ≤ 8 → spec_l4Bits.l0 k (n : Int) i = some (rep j n : Int) := by
  intro j
  induction j with
  | zero =>
    intro k n i hn hk hi _
    obtain ⟨k, rfl⟩ : ∃ m, k = m + 1 := ⟨k - 1, by omega⟩
    simp only [spec_l4Bits.l0]; rw [if_neg (by omega)]; rfl
  | succ j ih =>
    intro k n i hn hk hi h8
    obtain ⟨k, rfl⟩ : ∃ m, k = m + 1 := ⟨k - 1, by omega⟩
    have hw : wrap64 (i + 1) = i + 1 := w64 (by omega) (by omega)
    have := ih k (st n) (i + 1) (st_lt hn) (by omega) (by omega) (by omega)
    simp only [spec_l4Bits.l0]
    rw [if_pos (by omega), hw, nat_and1]
    unfold rep
    rw [← this]
    clear this
    unfold st
    by_cases h : n % 2 = 1
    · rw [if_pos (by omega), if_pos h, show ((n : Int) / 2) = ((n / 2 : Nat) : Int) by omega, show (3988292384 : Int) = ((3988292384 : Nat) : Int) from rfl, nat_xor _ _ (by omega) (by omega)]
    · rw [if_neg (by omega), if_neg h, show ((n : Int) / 2) = ((n / 2 : Nat) : Int) by omega]
theorem i_bits (l : List Int) (m x10 : Int) : ∀ (j k n : Nat) (i : Int), n < 2 ^ 32 → i = 8 - j → j ≤ 8 → impl_WordSumOf.l1 (k + j + 1) (n : Int) l m x10 i = impl_WordSumOf.l0 k (rep j n : Int) l m (wrap64 (x10 + 1)) := by
  intro j
  induction j with
  | zero =>
    intro k n i hn hi _
    simp only [impl_WordSumOf.l1, Nat.add_zero]; rw [if_neg (by omega)]; rfl
  | succ j ih =>
    intro k n i hn hi h8
    have hw : wrap64 (i + 1) = i + 1 := w64 (by omega) (by omega)
    have := ih k (st n) (i + 1) (st_lt hn) (by omega) (by omega)
    rw [show k + (j + 1) + 1 = (k + j + 1) + 1 by omega]
    generalize k + j + 1 = q at this ⊢
    simp only [impl_WordSumOf.l1]
    rw [if_pos (by omega), hw, nat_and1]
    unfold rep
    rw [← this]
    clear this
    unfold st
    by_cases h : n % 2 = 1
    · rw [if_pos (by omega), if_pos h, show ((n : Int) / 2) = ((n / 2 : Nat) : Int) by omega, show (3988292384 : Int) = ((3988292384 : Nat) : Int) from rfl, nat_xor _ _ (by omega) (by omega)]
    · rw [if_neg (by omega), if_neg h, show ((n : Int) / 2) = ((n / 2 : Nat) : Int) by omega]
def crc : List Int → Nat → Nat
  | [], n => n
  | b :: l, n => crc l (rep 8 (n ^^^ b.toNat))
theorem crc_lt : ∀ (l : List Int) (n : Nat), (∀ b ∈ l, 0 ≤ b ∧ b ≤ 255) → n < 2 ^ 32 → crc l n < 2 ^ 32
  | [], _, _, h => h
  | b :: l, n, hl, h => crc_lt l _ (fun c hc => hl c (List.mem_cons_of_mem _ hc)) (rep_lt 8 _ (Nat.xor_lt_two_pow h (by have := hl b (List.mem_cons_self ..); omega)))
theorem bytes_in (s : ByteArray) : ∀ b ∈ bytesOf s, 0 ≤ b ∧ b ≤ 255 := by
  intro b hb
  unfold bytesOf at hb
  obtain ⟨c, _, rfl⟩ := List.mem_map.1 hb
  have := c.toNat_lt
  omega
theorem xor_byte (n : Nat) (b : Int) (hn : n < 2 ^ 32) (hb : 0 ≤ b ∧ b ≤ 255) : Go.bits .xor .i64 (n : Int) (wrap64 b) = ((n ^^^ b.toNat : Nat) : Int) ∧ n ^^^ b.toNat < 2 ^ 32 := by
  have hw : wrap64 b = ((b.toNat : Nat) : Int) := by rw [w64 (by omega) (by omega)]; omega
  rw [hw]
  exact ⟨nat_xor _ _ (by omega) (by omega), Nat.xor_lt_two_pow hn (by omega)⟩
theorem rd_at (l : List Int) (i : Nat) (h : i < l.length) : rd l (i : Int) = l[i] := by
  unfold rd
  rw [Int.toNat_natCast, List.getD_eq_getElem?_getD, List.getElem?_eq_getElem h]; rfl
theorem last_xor (n : Nat) (h : n < 2 ^ 32) : Go.bits .xor .i64 (n : Int) 4294967295 = ((n ^^^ 4294967295 : Nat) : Int) := by
  rw [show (4294967295 : Int) = ((4294967295 : Nat) : Int) from rfl, nat_xor _ _ (by omega) (by omega)]
theorem i_sum_loop (l : List Int) (hl : ∀ b ∈ l, 0 ≤ b ∧ b ≤ 255) (hlen : l.length ≤ 1000000000) (d : Nat) : ∀ (k n i : Nat), n < 2 ^ 32 → i ≤ l.length → l.length - i = d → 10 * d < k → impl_WordSumOf.l0 k (n : Int) l (l.length : Int) (i : Int) = some ((crc (l.drop i) n ^^^ 4294967295 : Nat) : Int) := by
  induction d with
  | zero =>
    intro k n i hn hi hd hk
    obtain ⟨k, rfl⟩ : ∃ m, k = m + 1 := ⟨k - 1, by omega⟩
    obtain rfl : i = l.length := by omega
    simp only [impl_WordSumOf.l0]; rw [if_neg (by omega), List.drop_length, last_xor n hn]; rfl
  | succ d ih =>
    intro k n i hn hi hd hk
    obtain ⟨k, rfl⟩ : ∃ m, k = (m + 8 + 1) + 1 := ⟨k - 10, by omega⟩
    have hil : i < l.length := by omega
    obtain ⟨e1, e2⟩ := xor_byte n l[i] hn (hl _ (List.getElem_mem hil))
    have hw : wrap64 ((i : Int) + 1) = ((i + 1 : Nat) : Int) := by rw [w64 (by omega) (by omega)]; omega
    have ih' := ih k (rep 8 (n ^^^ l[i].toNat)) (i + 1) (rep_lt 8 _ e2) (by omega) (by omega) (by omega)
    have hb := i_bits l (l.length : Int) (i : Int) 8 k (n ^^^ l[i].toNat) 0 e2 (by omega) (by omega)
    simp only [impl_WordSumOf.l0]
    rw [if_pos (by omega), if_pos (by omega), if_pos (by omega), rd_at l i hil, e1, hb, hw, ih', List.drop_eq_getElem_cons hil]
    rfl
theorem i_sum (s : ByteArray) (hs : s.size ≤ 1000000000) (k : Nat) (hk : 10 * s.size < k) : impl_WordSumOf.f k s = some ((crc (bytesOf s) 4294967295 ^^^ 4294967295 : Nat) : Int) := by
  have hl := bytesOf_length s
  unfold impl_WordSumOf.f
  rw [if_pos hs]
  exact i_sum_loop (bytesOf s) (bytes_in s) (by omega) s.size k 4294967295 0 (by omega) (by omega) (by omega) hk
theorem s_sum_loop (s : ByteArray) (hs : s.size ≤ 1000000000) (d : Nat) : ∀ (k n i : Nat), n < 2 ^ 32 → i ≤ s.size → s.size - i = d → d + 9 < k → spec_WordSumOf.l0 k s (n : Int) (i : Int) = some ((crc ((bytesOf s).drop i) n ^^^ 4294967295 : Nat) : Int) := by
  have hl := bytesOf_length s
  induction d with
  | zero =>
    intro k n i hn hi hd hk
    obtain ⟨k, rfl⟩ : ∃ m, k = m + 1 := ⟨k - 1, by omega⟩
    obtain rfl : i = s.size := by omega
    simp only [spec_WordSumOf.l0]; rw [if_neg (by omega), List.drop_eq_nil_of_le (by omega), last_xor n hn]; rfl
  | succ d ih =>
    intro k n i hn hi hd hk
    obtain ⟨k, rfl⟩ : ∃ m, k = m + 1 := ⟨k - 1, by omega⟩
    have hil : i < (bytesOf s).length := by omega
    obtain ⟨e1, e2⟩ := xor_byte n (bytesOf s)[i] hn (bytes_in s _ (List.getElem_mem hil))
    have hw : wrap64 ((i : Int) + 1) = ((i + 1 : Nat) : Int) := by rw [w64 (by omega) (by omega)]; omega
    have ih' := ih k (rep 8 (n ^^^ (bytesOf s)[i].toNat)) (i + 1) (rep_lt 8 _ e2) (by omega) (by omega) (by omega)
    have hb := s_bits 8 k (n ^^^ (bytesOf s)[i].toNat) 0 e2 (by omega) (by omega) (by omega)
    simp only [spec_WordSumOf.l0, spec_l4Bits.f]
    rw [if_pos (by omega), if_pos (by omega), ← rd_bytesOf, rd_at (bytesOf s) i hil, e1, hb]
    simp only [Option.bind_some]
    rw [hw, ih', List.drop_eq_getElem_cons hil]
    rfl
theorem s_sum (s : ByteArray) (hs : s.size ≤ 1000000000) (k : Nat) (hk : s.size + 9 < k) : spec_WordSumOf.f k s = some ((crc (bytesOf s) 4294967295 ^^^ 4294967295 : Nat) : Int) :=
  s_sum_loop s hs s.size k 4294967295 0 (by omega) (by omega) (by omega) hk
theorem many_ok : ∀ (j N : Nat) (s acc : ByteArray), N < 2 ^ j → N < 1000 → s.size ≤ 2000 → acc.size + s.size * N ≤ 1000 → ∃ t : ByteArray, t.size ≤ 1000 ∧ ∀ k, j < k → spec_l1Many.l0 k s (N : Int) acc = some t := by
  intro j
  induction j with
  | zero =>
    intro N s acc hn _ h1 h2
    obtain rfl : N = 0 := by simpa using hn
    refine ⟨acc, by omega, fun k hk => ?_⟩
    obtain ⟨k, rfl⟩ : ∃ m, k = m + 1 := ⟨k - 1, by omega⟩
    simp only [spec_l1Many.l0]; rw [if_neg (by omega)]
  | succ j ih =>
    intro N s acc hn hn2 h1 h2
    have hp2 : 2 ^ (j + 1) = 2 * 2 ^ j := by rw [Nat.pow_succ]; omega
    obtain ⟨s2, hs2, hss⟩ : ∃ x, x = s ++ s ∧ x.size = s.size + s.size := ⟨_, rfl, ByteArray.size_append ..⟩
    obtain ⟨a2, ha2, has⟩ : ∃ x, x = acc ++ s ∧ x.size = acc.size + s.size := ⟨_, rfl, ByteArray.size_append ..⟩
    by_cases h0 : N = 0
    · subst h0
      refine ⟨acc, by omega, fun k hk => ?_⟩
      obtain ⟨k, rfl⟩ : ∃ m, k = m + 1 := ⟨k - 1, by omega⟩
      simp only [spec_l1Many.l0]; rw [if_neg (by omega)]
    · have e1 : Aside0 (Int.tdiv (N : Int) 2 = ((N / 2 : Nat) : Int)) := ⟨by rw [Int.tdiv_eq_ediv_of_nonneg (by omega)]; omega⟩
      have e2 : Aside0 (Int.tmod (N : Int) 2 = ((N % 2 : Nat) : Int)) := ⟨by rw [Int.tmod_eq_emod_of_nonneg (by omega)]; omega⟩
      have hw : Aside0 (wrap64 ((N / 2 : Nat) : Int) = ((N / 2 : Nat) : Int)) := ⟨w64 (by omega) (by omega)⟩
      have hsn : s.size ≤ s.size * N := Nat.le_mul_of_pos_right _ (by omega)
      obtain ⟨m, hm⟩ : ∃ m, m = N / 2 := ⟨_, rfl⟩
      by_cases hodd : N % 2 = 1
      · have hq : s.size * N = s.size + (s.size + s.size) * m := by rw [show N = 2 * m + 1 by omega]; grind
        obtain ⟨t, ht, hk⟩ := ih m s2 a2 (by omega) (by omega) (by omega) (by rw [hss, has]; omega)
        refine ⟨t, ht, fun k hk' => ?_⟩
        obtain ⟨k, rfl⟩ : ∃ m, k = m + 1 := ⟨k - 1, by omega⟩
        simp only [spec_l1Many.l0]
        rw [if_pos (by omega), e2.out, if_pos (by omega), e1.out, hw.out, if_pos (by omega), if_pos (by omega), ← hm, ← hs2, ← ha2]
        exact hk k (by omega)
      · have hq : s.size * N = (s.size + s.size) * m := by rw [show N = 2 * m by omega]; grind
        obtain ⟨t, ht, hk⟩ := ih m s2 acc (by omega) (by omega) (by omega) (by rw [hss]; omega)
        refine ⟨t, ht, fun k hk' => ?_⟩
        obtain ⟨k, rfl⟩ : ∃ m, k = m + 1 := ⟨k - 1, by omega⟩
        simp only [spec_l1Many.l0]
        rw [if_pos (by omega), e2.out, if_neg (by omega), e1.out, hw.out, if_pos (by omega), ← hm, ← hs2]
        exact hk k (by omega)
theorem text_drawn (l : List Int) (hl : ∀ x ∈ l, (Lit.int .u8 x).wf = true) : ∃ t : ByteArray, t.size ≤ 1000 ∧ ∀ k, 5 ≤ k → spec_DrawWordSumOf.f k l = some t := by
  obtain ⟨b, hR, ho⟩ := open_ok l hl
  obtain ⟨v, a1, b1, -, h1⟩ := pick_ok b 0 4 hR (by omega)
  have b1 := b1 (by omega)
  have R1 := rdr_next hR
  obtain ⟨u, a2, b2, -, h2⟩ := pick_ok b (0 + 1) 6 R1 (by omega)
  have b2 := b2 (by omega)
  obtain ⟨s, hs⟩ : ∃ s, s = rdOf ByteArray.empty [(⟨#[49, 50, 51, 52, 53, 54, 55, 56, 57]⟩ : ByteArray), (⟨#[97]⟩ : ByteArray), (⟨#[0]⟩ : ByteArray), (⟨#[255]⟩ : ByteArray)] v := ⟨_, rfl⟩
  have hsz : s.size ≤ 9 := by
    rw [hs]
    obtain rfl | rfl | rfl | rfl : v = 0 ∨ v = 1 ∨ v = 2 ∨ v = 3 := by omega
    all_goals decide
  obtain ⟨N, rfl⟩ := Int.eq_ofNat_of_zero_le a2
  have hmul : s.size * N ≤ 9 * 5 := Nat.mul_le_mul hsz (by omega)
  obtain ⟨t, ht, hk⟩ := many_ok 3 N s ⟨#[]⟩ (by omega) (by omega) (by omega) (by show 0 + s.size * N ≤ 1000; omega)
  refine ⟨t, ht, fun k hk' => ?_⟩
  have hof : spec_l1Rd_of.f k b 0 [(⟨#[49, 50, 51, 52, 53, 54, 55, 56, 57]⟩ : ByteArray), (⟨#[97]⟩ : ByteArray), (⟨#[0]⟩ : ByteArray), (⟨#[255]⟩ : ByteArray)] = some (s, 0 + 1) := by
    simp only [spec_l1Rd_of.f]
    rw [show ((([(⟨#[49, 50, 51, 52, 53, 54, 55, 56, 57]⟩ : ByteArray), (⟨#[97]⟩ : ByteArray), (⟨#[0]⟩ : ByteArray), (⟨#[255]⟩ : ByteArray)] : List ByteArray).length : Nat) : Int) = 4 from rfl, h1 k (by omega)]
    simp only [Option.bind_some]
    rw [if_pos a1, if_pos b1, hs]
  simp only [spec_DrawWordSumOf.f, ho, Option.bind_some, hof, h2 k (by omega), spec_l1Many.f, hk k (by omega)]
theorem known : (crc (bytesOf (⟨#[49, 50, 51, 52, 53, 54, 55, 56, 57]⟩ : ByteArray)) 4294967295 ^^^ 4294967295 : Nat) = 3421780262 := by decide +kernel
theorem known0 : (crc (bytesOf (⟨#[]⟩ : ByteArray)) 4294967295 ^^^ 4294967295 : Nat) = 0 := by decide +kernel
theorem FnWordSum : laws_FnWordSum.Pure := by
  intro l0 hl1 hl2 hl3
  obtain ⟨s, hs, hd⟩ := text_drawn l0 hl3
  obtain ⟨k, hk⟩ : ∃ k : Nat, 20000 ≤ k := ⟨20000, by omega⟩
  refine ⟨k, ?_⟩
  simp only [laws_FnWordSum.f]
  by_cases h0 : (l0.length : Int) > 1048576
  · rw [if_pos h0]
  · have hlt := crc_lt (bytesOf s) 4294967295 (bytes_in s) (by omega)
    have hx : crc (bytesOf s) 4294967295 ^^^ 4294967295 < 2 ^ 32 := Nat.xor_lt_two_pow hlt (by omega)
    obtain ⟨c, hc⟩ : ∃ c, c = crc (bytesOf s) 4294967295 ^^^ 4294967295 := ⟨_, rfl⟩
    have k1 : (⟨#[49, 50, 51, 52, 53, 54, 55, 56, 57]⟩ : ByteArray).size = 9 := rfl
    have k2 : (⟨#[]⟩ : ByteArray).size = 0 := rfl
    have hin : laws_lhIn.f (c : Int) 0 4294967295 = some true := by
      simp only [laws_lhIn.f]; rw [if_pos (by omega), decide_eq_true (by omega)]
    rw [if_neg h0, hd _ (by omega)]
    simp only [Option.bind_some]
    rw [i_sum s (by omega) _ (by omega), s_sum s (by omega) _ (by omega), ← hc]
    simp only [Option.bind_some, if_true, hin]
    rw [i_sum _ (by omega) _ (by omega), known]
    simp only [Option.bind_some]
    rw [if_pos (by decide), i_sum _ (by omega) _ (by omega), known0]
    rfl
end Go.Proofs.Ytacbmhkdeceomaa.Pure
