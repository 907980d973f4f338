/- The program's WordSumOf answers as the reference's, for every text. Conditions: none beyond the row's reach. -/
import Derived.Test.YtmhemakhignmhaaPFnExactWordSumOfx
set_option linter.unusedVariables false
set_option linter.unusedSimpArgs false
namespace Go.Proofs.Ytmhemakhignmhaa.Pure
open Go.RowKit Go.Proofs.Ytmhemakhignmhaa.PFnExactWordSumOf Go.Proofs.YtmhemakhignmhaaW.PrintWords Go.Proofs.YtmhemakhignmhaaW.PrintLast Go.Proofs.YtmhemakhignmhaaW.PrintMore
theorem w64 {n : Int} (h : -9223372036854775808 ≤ n) (h' : n ≤ 9223372036854775807) : wrap64 n = n := by unfold wrap64; omega
theorem lt_ge (a b : Int) : a < b ∨ b ≤ a := by omega
/-! the sum -/
theorem nat_xor (a b : Nat) (ha : a < 9223372036854775808) (hb : b < 9223372036854775808) : Go.bits .xor .i64 (a : Int) (b : Int) = ((a ^^^ b : Nat) : Int) := by
  have ha' : a % 2 ^ IntKind.i64.bits = a := Nat.mod_eq_of_lt (by show a < 2 ^ 64; omega)
  have hb' : b % 2 ^ IntKind.i64.bits = b := Nat.mod_eq_of_lt (by show b < 2 ^ 64; omega)
  have hx : a ^^^ b < 2 ^ 63 := Nat.xor_lt_two_pow (by omega) (by omega)
  simp only [Go.bits, BitVec.ofInt_natCast, BitVec.toNat_xor, BitVec.toNat_ofNat, ha', hb']
  rw [IntKind.wrap_i64]
  omega
theorem nat_and1 (n : Int) : Go.bits .and .i64 n 1 = n % 2 := by
  have h1 : (BitVec.ofInt 64 1).toNat = 2 ^ 1 - 1 := by decide
  have key : (BitVec.ofInt 64 n &&& BitVec.ofInt 64 1).toNat = (n % ((2 ^ 64 : Nat) : Int)).toNat % 2 ^ 1 := by
    rw [BitVec.toNat_and, BitVec.toNat_ofInt, h1, Nat.and_two_pow_sub_one_eq_mod]
  show IntKind.i64.wrap ((BitVec.ofInt 64 n &&& BitVec.ofInt 64 1).toNat : Nat) = n % 2
  rw [key, IntKind.wrap_i64]
  omega
def st (n : Nat) : Nat := if n % 2 = 1 then (n / 2) ^^^ 3988292384 else n / 2
theorem st_lt {n : Nat} (h : n < 2 ^ 32) : st n < 2 ^ 32 := by
  unfold st
  split
  · exact Nat.xor_lt_two_pow (by omega) (by omega)
  · omega
def rep : Nat → Nat → Nat
  | 0, n => n
  | j + 1, n => rep j (st n)
theorem rep_lt : ∀ (j n : Nat), n < 2 ^ 32 → rep j n < 2 ^ 32
  | 0, _, h => h
  | j + 1, n, h => rep_lt j (st n) (st_lt h)
theorem s_bits : ∀ (j k n : Nat) (i : Int), n < 2 ^ 32 → j < k → i = 8 - j → j ≤ 8 → spec_l4Bits.l0 k (n : Int) i = some (rep j n : Int) := by
  intro j
  induction j with
  | zero =>
    intro k n i hn hk hi _
    obtain ⟨k, rfl⟩ : ∃ m, k = m + 1 := ⟨k - 1, by omega⟩
    simp only [spec_l4Bits.l0]; rw [if_neg (by omega)]; rfl
  | succ j ih =>
    intro k n i hn hk hi h8
    obtain ⟨k, rfl⟩ : ∃ m, k = m + 1 := ⟨k - 1, by omega⟩
    have hw : wrap64 (i + 1) = i + 1 := w64 (by omega) (by omega)
    have := ih k (st n) (i + 1) (st_lt hn) (by omega) (by omega) (by omega)
    simp only [spec_l4Bits.l0]
    rw [if_pos (by omega), hw, nat_and1]
    unfold rep
    rw [← this]
    clear this
    unfold st
    by_cases h : n % 2 = 1
    · rw [if_pos (by omega), if_pos h, show ((n : Int) / 2) = ((n / 2 : Nat) : Int) by omega, show (3988292384 : Int) = ((3988292384 : Nat) : Int) from rfl, nat_xor _ _ (by omega) (by omega)]
    · rw [if_neg (by omega), if_neg h, show ((n : Int) / 2) = ((n / 2 : Nat) : Int) by omega]
theorem i_bits (l : List Int) (m x10 : Int) : ∀ (j k n : Nat) (i : Int), n < 2 ^ 32 → i = 8 - j → j ≤ 8 → impl_WordSumOf.l1 (k + j + 1) (n : Int) l m x10 i = impl_WordSumOf.l0 k (rep j n : Int) l m (wrap64 (x10 + 1)) := by
  intro j
  induction j with
  | zero =>
    intro k n i hn hi _
    simp only [impl_WordSumOf.l1, Nat.add_zero]; rw [if_neg (by omega)]; rfl
  | succ j ih =>
    intro k n i hn hi h8
    have hw : wrap64 (i + 1) = i + 1 := w64 (by omega) (by omega)
    have := ih k (st n) (i + 1) (st_lt hn) (by omega) (by omega)
    rw [show k + (j + 1) + 1 = (k + j + 1) + 1 by omega]
    generalize k + j + 1 = q at this ⊢
    simp only [impl_WordSumOf.l1]
    rw [if_pos (by omega), hw, nat_and1]
    unfold rep
    rw [← this]
    clear this
    unfold st
    by_cases h : n % 2 = 1
    · rw [if_pos (by omega), if_pos h, show ((n : Int) / 2) = ((n / 2 : Nat) : Int) by omega, show (3988292384 : Int) = ((3988292384 : Nat) : Int) from rfl, nat_xor _ _ (by omega) (by omega)]
    · rw [if_neg (by omega), if_neg h, show ((n : Int) / 2) = ((n / 2 : Nat) : Int) by omega]
def crc : List Int → Nat → Nat
  | [], n => n
  | b :: l, n => crc l (rep 8 (n ^^^ b.toNat))
theorem crc_lt : ∀ (l : List Int) (n : Nat), (∀ b ∈ l, 0 ≤ b ∧ b ≤ 255) → n < 2 ^ 32 → crc l n < 2 ^ 32
  | [], _, _, h => h
  | b :: l, n, hl, h => crc_lt l _ (fun c hc => hl c (List.mem_cons_of_mem _ hc)) (rep_lt 8 _ (Nat.xor_lt_two_pow h (by have := hl b (List.mem_cons_self ..); omega)))
theorem bytes_in (s : ByteArray) : ∀ b ∈ bytesOf s, 0 ≤ b ∧ b ≤ 255 := by
  intro b hb
  unfold bytesOf at hb
  obtain ⟨c, _, rfl⟩ := List.mem_map.1 hb
  have := c.toNat_lt
  omega
theorem xor_byte (n : Nat) (b : Int) (hn : n < 2 ^ 32) (hb : 0 ≤ b ∧ b ≤ 255) : Go.bits .xor .i64 (n : Int) (wrap64 b) = ((n ^^^ b.toNat : Nat) : Int) ∧ n ^^^ b.toNat < 2 ^ 32 := by
  have hw : wrap64 b = ((b.toNat : Nat) : Int) := by rw [w64 (by omega) (by omega)]; omega
  rw [hw]
  exact ⟨nat_xor _ _ (by omega) (by omega), Nat.xor_lt_two_pow hn (by omega)⟩
theorem rd_at (l : List Int) (i : Nat) (h : i < l.length) : rd l (i : Int) = l[i] := by
  unfold rd
  rw [Int.toNat_natCast, List.getD_eq_getElem?_getD, List.getElem?_eq_getElem h]; rfl
theorem last_xor (n : Nat) (h : n < 2 ^ 32) : Go.bits .xor .i64 (n : Int) 4294967295 = ((n ^^^ 4294967295 : Nat) : Int) := by
  rw [show (4294967295 : Int) = ((4294967295 : Nat) : Int) from rfl, nat_xor _ _ (by omega) (by omega)]
theorem i_sum_loop (l : List Int) (hl : ∀ b ∈ l, 0 ≤ b ∧ b ≤ 255) (hlen : l.length ≤ 1000000000) (d : Nat) : ∀ (k n i : Nat), n < 2 ^ 32 → i ≤ l.length → l.length - i = d → 10 * d < k → impl_WordSumOf.l0 k (n : Int) l (l.length : Int) (i : Int) = some ((crc (l.drop i) n ^^^ 4294967295 : Nat) : Int) := by
  induction d with
  | zero =>
    intro k n i hn hi hd hk
    obtain ⟨k, rfl⟩ : ∃ m, k = m + 1 := ⟨k - 1, by omega⟩
    obtain rfl : i = l.length := by omega
    simp only [impl_WordSumOf.l0]; rw [if_neg (by omega), List.drop_length, last_xor n hn]; rfl
  | succ d ih =>
    intro k n i hn hi hd hk
    obtain ⟨k, rfl⟩ : ∃ m, k = (m + 8 + 1) + 1 := ⟨k - 10, by omega⟩
    have hil : i < l.length := by omega
    obtain ⟨e1, e2⟩ := xor_byte n l[i] hn (hl _ (List.getElem_mem hil))
    have hw : wrap64 ((i : Int) + 1) = ((i + 1 : Nat) : Int) := by rw [w64 (by omega) (by omega)]; omega
    have ih' := ih k (rep 8 (n ^^^ l[i].toNat)) (i + 1) (rep_lt 8 _ e2) (by omega) (by omega) (by omega)
    have hb := i_bits l (l.length : Int) (i : Int) 8 k (n ^^^ l[i].toNat) 0 e2 (by omega) (by omega)
    simp only [impl_WordSumOf.l0]
    rw [if_pos (by omega), if_pos (by omega), if_pos (by omega), rd_at l i hil, e1, hb, hw, ih', List.drop_eq_getElem_cons hil]
    rfl
theorem i_sum (s : ByteArray) (hs : s.size ≤ 1000000000) (k : Nat) (hk : 10 * s.size < k) : impl_WordSumOf.f k s = some ((crc (bytesOf s) 4294967295 ^^^ 4294967295 : Nat) : Int) := by
  have hl := bytesOf_length s
  unfold impl_WordSumOf.f
  rw [if_pos hs]
  exact i_sum_loop (bytesOf s) (bytes_in s) (by omega) s.size k 4294967295 0 (by omega) (by omega) (by omega) hk
theorem s_sum_loop (s : ByteArray) (hs : s.size ≤ 1000000000) (d : Nat) : ∀ (k n i : Nat), n < 2 ^ 32 → i ≤ s.size → s.size - i = d → d + 9 < k → spec_WordSumOf.l0 k s (n : Int) (i : Int) = some ((crc ((bytesOf s).drop i) n ^^^ 4294967295 : Nat) : Int) := by
  have hl := bytesOf_length s
  induction d with
  | zero =>
    intro k n i hn hi hd hk
    obtain ⟨k, rfl⟩ : ∃ m, k = m + 1 := ⟨k - 1, by omega⟩
    obtain rfl : i = s.size := by omega
    simp only [spec_WordSumOf.l0]; rw [if_neg (by omega), List.drop_eq_nil_of_le (by omega), last_xor n hn]; rfl
  | succ d ih =>
    intro k n i hn hi hd hk
    obtain ⟨k, rfl⟩ : ∃ m, k = m + 1 := ⟨k - 1, by omega⟩
    have hil : i < (bytesOf s).length := by omega
    obtain ⟨e1, e2⟩ := xor_byte n (bytesOf s)[i] hn (bytes_in s _ (List.getElem_mem hil))
    have hw : wrap64 ((i : Int) + 1) = ((i + 1 : Nat) : Int) := by rw [w64 (by omega) (by omega)]; omega
    have ih' := ih k (rep 8 (n ^^^ (bytesOf s)[i].toNat)) (i + 1) (rep_lt 8 _ e2) (by omega) (by omega) (by omega)
    have hb := s_bits 8 k (n ^^^ (bytesOf s)[i].toNat) 0 e2 (by omega) (by omega) (by omega)
    simp only [spec_WordSumOf.l0, spec_l4Bits.f]
    rw [if_pos (by omega), if_pos (by omega), ← rd_bytesOf, rd_at (bytesOf s) i hil, e1, hb]
    simp only [Option.bind_some]
    rw [hw, ih', List.drop_eq_getElem_cons hil]
    rfl
theorem s_sum (s : ByteArray) (hs : s.size ≤ 1000000000) (k : Nat) (hk : s.size + 9 < k) : spec_WordSumOf.f k s = some ((crc (bytesOf s) 4294967295 ^^^ 4294967295 : Nat) : Int) :=
  s_sum_loop s hs s.size k 4294967295 0 (by omega) (by omega) (by omega) hk
theorem FnExactWordSumOf : laws_FnExactWordSumOf.Pure := by
  intro s hs
  refine ⟨10 * s.size + 20, ?_⟩
  simp only [laws_FnExactWordSumOf.f]
  by_cases h0 : (s.size : Int) > 1048576
  · rw [if_pos h0]
  · rw [if_neg h0, s_sum s (by omega) _ (by omega), i_sum s (by omega) _ (by omega)]
    simp only [Option.bind_some, if_true]
end Go.Proofs.Ytmhemakhignmhaa.Pure
