/- Written by a program of this session (a turned copy of a tool of the kit): functions as plain functions, and that each call does what they tell. Conditions: none. -/
import Derived.Test.YtjaihhgkcdnhnaaPFnTableVersionx0
import Derived.Test.YtjaihhgkcdnhnaaPFnTableVersionx7
import Derived.Test.YtjaihhgkcdnhnaaPFnTableVersionx8
import Derived.Test.YtjaihhgkcdnhnaaPFnTableVersionx9
namespace Go.Proofs.Ytjaihhgkcdnhnaa.PFnTableVersion
open Go.RowKit Go.Proofs.YtjaihhgkcdnhnaaW.PrintWords Go.Proofs.YtjaihhgkcdnhnaaW.PrintLast Go.Proofs.YtjaihhgkcdnhnaaW.PrintMore
attribute [local go_sem] max2_int min2_int max_two min_two max_three min_three max_four min_four
set_option linter.unusedVariables false
set_option linter.unusedSimpArgs false

/-! ### impl_Fact_63: function 63 -/
def impl_Fact_63.f (l0 : List (S30)) (a1 : Int) (l2 : List (S30)) : Option ((List (S30))) := if 0 ≤ a1 then (if a1 ≤ (l0.length : Int) then (if (l2.length : Int) = 0 then (some l0) else ((some (([] : List (S30)) : List (S30))).bind fun y240 => ((some (l0.take (a1 : Int).toNat : List (S30))).bind fun y243 => (if y240.length + y243.length < 4398046511104 then ((some (y240 ++ y243 : List (S30))).bind fun y247 => (if y247.length + l2.length < 4398046511104 then ((some (y247 ++ l2 : List (S30))).bind fun y250 => ((some (l0.drop (a1 : Int).toNat : List (S30))).bind fun y253 => (if y250.length + y253.length < 4398046511104 then (if (l0.length : Int) = 0 then (some l2) else (some (y250 ++ y253))) else (none)))) else (none))) else (none))))) else (none)) else (none)
namespace impl_Fact_63_
open Go Go.Lib
theorem icopy (w : World) (ty : TypeId) (g o dLen dCap : Nat) (a : Addr) (sLen sCap : Nat) (cur : Array Value) (cs : List Value)
  (hg : w.heap[g]? = some (.cells cur 30 (0, 0))) (hn : cs.length = Nat.min sLen dLen * 4)
  (hsrc : ∀ j v, cs[j]? = some v → w.cell? (a.add j) = some v) (hfit : o + cs.length ≤ cur.size) (h1 : ∀ v ∈ cs, v.oneCell' = true) :
  (Builtin.copy_ #[26, 26] ty #[.slice (some ⟨g, o, none⟩) dLen dCap, .slice (some a) sLen sCap]).run Try.prog w =
   .ok (goInt (Nat.min sLen dLen)) (w.setRow g (cur.toList.take o ++ cs ++ cur.toList.drop (o + cs.length)).toArray) := by
 have hl := run_loadCells_list (P := Try.prog) w a cs hsrc
 have hst := run_storeCells_at Try.prog g o 30 cs 0 cur w hg (by simpa using hfit) h1
 obtain ⟨i, hq, hz, hi, hb⟩ := info_parts info30
 simp [Builtin.copy_, run_underlying Try.underlying26, Builtin.lenOf, Builtin.firstCells, sizeOf, typeInfo, hq, hi, ← hn, hl, hst]
theorem isize (w : World) : (Go.sizeOf 30).run Try.prog w = .ok 4 w := by
 obtain ⟨i, hq, hz, hi, hb⟩ := info_parts info30
 simp [sizeOf, typeInfo, hq, hi]
theorem iapart (w : World) (vb b o m vc lb cb : Nat) (hvb : vb ≠ b) (cv cb_ : Array Value) (hv : w.heap[vb]? = some (.cells cv 30 (0, 0))) (hb : w.heap[b]? = some (.cells cb_ 30 (0, 0))) (hne : cb_.size ≠ 0) :
  (callFunc 75 #[.slice (some ⟨vb, 0, none⟩) m vc, .slice (some ⟨b, o, none⟩) lb cb]).run Try.prog w = .ok (.value (.bool false)) w := by
 rw [run_callFunc_extern Try.func75 (by kernel_rfl) (by kernel_rfl) (by kernel_rfl) (e := Extern.SlicesOverlaps.overlaps #[26, 26] #[4]) (by kernel_rfl)]
 rw [Lib.run_overlaps_apart w 26 4 30 Try.underlying26 4 isize ⟨vb, 0, none⟩ ⟨b, o, none⟩ m vc lb cb hvb 30 30 cv.size cb_.size (by simp [World.shape?, hv]) (by simp [World.shape?, hb]) hne (by simp [World.frozen?, hv]) (by simp [World.frozen?, hv])]
 rfl
set_option maxHeartbeats 4000000 in
set_option maxRecDepth 100000 in
theorem ishift (b n c i vb m vc : Nat) (cur cv : Array Value) (w : World) (hi : i < n) (hm : 0 < m) (hroom : n + m ≤ c) (hc63 : c ≤ 9223372036854775807) (hvb : vb ≠ b)
  (hg : w.heap[b]? = some (.cells cur 30 (0, 0))) (hcur : cur.size = c * 4) (hv : w.heap[vb]? = some (.cells cv 30 (0, 0))) (hcv : m * 4 ≤ cv.size) (X1 X2 : Array Value)
  (hcp1 : ∀ ty dc sc, (Builtin.copy_ #[26, 26] ty #[.slice (some ⟨b, (i + m) * 4, none⟩) (n + m - (i + m)) dc, .slice (some ⟨b, i * 4, none⟩) (n + m - i) sc]).run Try.prog w.drew = .ok (goInt (n - i)) (w.drew.setRow b X1))
  (hcp2 : ∀ ty dc, (Builtin.copy_ #[26, 26] ty #[.slice (some ⟨b, i * 4, none⟩) (n + m - i) dc, .slice (some ⟨vb, 0, none⟩) m vc]).run Try.prog (w.drew.setRow b X1) = .ok (goInt m) ((w.drew.setRow b X1).setRow b X2)) :
  Calls Try.prog 63 #[.slice (some ⟨b, 0, none⟩) n c, .int .i64 i, .slice (some ⟨vb, 0, none⟩) m vc] w fun e w' =>
   e = .returned (.slice (some ⟨b, 0, none⟩) (n + m) c) ∧ w' = (w.drew.setRow b X1).setRow b X2 := by
 have hz1 : ¬ ((m : Int) = 0) := by omega
 have hz2 : ¬ ((i : Int) = (n : Int)) := by omega
 have hov : ∀ o lb cb, (callFunc 75 #[.slice (some ⟨vb, 0, none⟩) m vc, .slice (some ⟨b, o, none⟩) lb cb]).run Try.prog w = .ok (.value (.bool false)) w := fun o lb cb => iapart w vb b o m vc lb cb hvb cv cur hv hg (by omega)
 have hw1 : IntKind.i64.wrap ((i : Int) + (m : Int)) = (i : Int) + (m : Int) := by rw [IntKind.wrap_i64]; omega
 have hb1 : (0 : Int) ≤ (i : Int) + (m : Int) := by omega
 have hin : i ≤ n := by omega
 have htn : ((i : Int) + (m : Int)).toNat = i + m := by omega
 have hb2 : ¬ (c = i + m) := by omega
 have hb3 : (i : Int) ≤ (n : Int) + (m : Int) := by omega
 have hb4 : ¬ (c = i) := by omega
 have hu := Try.underlying26
 have mixed : Try.prog.follows Departure.mixedOrders = true := by kernel_rfl
 go_enter Try.func63, Try.ntmps63
 go_wp2_with (simp only [hov])
 go_region_law_o (refine step_copy_runI rfl _ _ 26 26 rfl _ _ (by simp [Act.eval, Act.put]) (by simp [Act.eval, Act.put]) (hcp1 _ _ _) ?_)
 go_wp2
 go_ret
 exact ⟨rfl, rfl⟩
set_option maxHeartbeats 4000000 in
set_option maxRecDepth 100000 in
theorem igrow (b n c i vb m vc G : Nat) (w : World) (ROW X1 X2 : Array Value) (hi : i < n) (hm : 0 < m) (hnc : n ≤ c) (hroom : c < n + m) (hc63 : n + m ≤ 1000000000000000) (hGn : n + m ≤ G) (hG63 : G ≤ 9223372036854775807)
  (hrz : ∀ ty, (Builtin.append_ #[26, 3] ty #[.slice (some ⟨b, 0, none⟩) i c, .int .i64 ((n : Int) + (m : Int) - (i : Int))]).run Try.prog w = .ok (.slice (some ⟨w.heap.size, 0, none⟩) (n + m) G) (w.drew.alloc (.cells ROW 30)))
  (hcpA : ∀ (W : World), W.heap = (w.alloc (.cells ROW 30)).heap → ∀ ty dc, (Builtin.copy_ #[26, 26] ty #[.slice (some ⟨w.heap.size, i * 4, none⟩) (n + m - i) dc, .slice (some ⟨vb, 0, none⟩) m vc]).run Try.prog W = .ok (goInt m) (W.setRow w.heap.size X1))
  (hcpB : ∀ (W : World), W.heap = ((w.alloc (.cells ROW 30)).setRow w.heap.size X1).heap → ∀ ty dc sc, (Builtin.copy_ #[26, 26] ty #[.slice (some ⟨w.heap.size, (i + m) * 4, none⟩) (n + m - (i + m)) dc, .slice (some ⟨b, i * 4, none⟩) (n - i) sc]).run Try.prog W = .ok (goInt (n - i)) (W.setRow w.heap.size X2)) :
  Calls Try.prog 63 #[.slice (some ⟨b, 0, none⟩) n c, .int .i64 i, .slice (some ⟨vb, 0, none⟩) m vc] w fun e w' =>
   e = .returned (.slice (some ⟨w.heap.size, 0, none⟩) (n + m) G) ∧ w' = (((w.alloc (.cells ROW 30)).drew.setRow w.heap.size X1).drew).setRow w.heap.size X2 := by
 have hz1 : ¬ ((m : Int) = 0) := by omega
 have hz2 : ¬ ((i : Int) = (n : Int)) := by omega
 have hz3 : (c : Int) < (n : Int) + (m : Int) := by omega
 have hw1 : IntKind.i64.wrap ((i : Int) + (m : Int)) = (i : Int) + (m : Int) := by rw [IntKind.wrap_i64]; omega
 have hb1 : (0 : Int) ≤ (i : Int) + (m : Int) := by omega
 have hin : i ≤ n := by omega
 have htn : ((i : Int) + (m : Int)).toNat = i + m := by omega
 have hb3 : (i : Int) ≤ (n : Int) := by omega
 have hGi : ¬ (G = i) := by omega
 have hGim : ¬ (G = i + m) := by omega
 have hci : ¬ (c = i) := by omega
 have hu := Try.underlying26
 have mixed : Try.prog.follows Departure.mixedOrders = true := by kernel_rfl
 have hA := hcpA ((w.alloc (.cells ROW 30)).drew) rfl
 have hB := hcpB (((w.alloc (.cells ROW 30)).drew.setRow w.heap.size X1).drew) rfl
 clear hcpA
 go_enter Try.func63, Try.ntmps63
 go_wp2_with (first
  | (at_builtin; refine Lib.wpList_append_run _ rfl _ _ _ _ rfl _ _ rfl rfl _ _ (hrz _) ?_))
 go_region_law_o (refine step_copy_runI rfl _ _ 26 26 rfl (.slice (some ⟨w.heap.size, (i + m) * 4, none⟩) (n + m - (i + m)) (G - (i + m))) (.slice (some ⟨b, i * 4, none⟩) (n - i) (c - i)) (by simp [Act.eval, Act.put]) (by simp [Act.eval, Act.put]) (hcpB _ rfl 3 (G - (i + m)) (c - i)) ?_)
 go_wp2
 go_ret
 exact ⟨rfl, rfl⟩
theorem isplice (L vs : List Value) (i n m sz : Nat) (hin : i ≤ n) (hL : (n + m) * sz ≤ L.length) (hv : vs.length = m * sz) :
  ∃ c1 : List Value, c1 = (L.drop (i * sz)).take ((n - i) * sz) ∧ c1.length = (n - i) * sz ∧
   ∀ X1, X1 = L.take ((i + m) * sz) ++ c1 ++ L.drop ((i + m) * sz + c1.length) → X1.length = L.length ∧
    ∀ X2, X2 = X1.take (i * sz) ++ vs ++ X1.drop (i * sz + vs.length) → X2.length = L.length ∧ X2.take ((n + m) * sz) = (L.take (n * sz)).take (i * sz) ++ vs ++ (L.take (n * sz)).drop (i * sz) := by
 have e1 : (n - i) * sz + i * sz = n * sz := by rw [← Nat.add_mul, Nat.sub_add_cancel hin]
 have e2 : (i + m) * sz = i * sz + m * sz := Nat.add_mul ..
 have e3 : (n + m) * sz = n * sz + m * sz := Nat.add_mul ..
 have hc : ((L.drop (i * sz)).take ((n - i) * sz)).length = (n - i) * sz := by rw [List.length_take, List.length_drop]; omega
 refine ⟨_, rfl, hc, fun X1 h1 => ?_⟩
 have hX1 : X1.length = L.length := by rw [h1]; simp only [List.length_append, hc, List.length_take, List.length_drop]; omega
 refine ⟨hX1, fun X2 h2 => ?_⟩
 have hX2 : X2.length = L.length := by rw [h2]; simp only [List.length_append, hX1, hv, List.length_take, List.length_drop]; omega
 refine ⟨hX2, ?_⟩
 have t1 : X1.take (i * sz) = L.take (i * sz) := by
  rw [h1, List.append_assoc, List.take_append_of_le_length (by rw [List.length_take]; omega), List.take_take]; congr 1; omega
 have t2 : X1.drop (i * sz + vs.length) = (L.drop (i * sz)).take ((n - i) * sz) ++ L.drop ((i + m) * sz + ((L.drop (i * sz)).take ((n - i) * sz)).length) := by
  rw [h1, hv, List.append_assoc]
  have : i * sz + m * sz = (L.take ((i + m) * sz)).length := by rw [List.length_take]; omega
  rw [this, List.drop_left]
 have t3 : (L.take (n * sz)).take (i * sz) = L.take (i * sz) := by rw [List.take_take]; congr 1; omega
 have t4 : (L.take (n * sz)).drop (i * sz) = (L.drop (i * sz)).take ((n - i) * sz) := by rw [List.drop_take]; congr 1; omega
 rw [h2, t1, t2, t3, t4, ← List.append_assoc]
 rw [List.take_append_of_le_length (by simp only [List.length_append, List.length_take, List.length_drop, hv]; omega)]
 rw [List.take_of_length_le (by simp only [List.length_append, List.length_take, List.length_drop, hv]; omega)]
theorem itake (L : List Value) (k j : Nat) (v : Value) (h : (L.take k)[j]? = some v) : L[j]? = some v := by
 rw [List.getElem?_take] at h
 split at h
 ·exact h
 ·cases h
theorem icell (w : World) (b o : Nat) (cur : Array Value) (t : TypeId) (hg : w.heap[b]? = some (.cells cur t (0, 0))) (cs : List Value) (hcs : ∀ j v, cs[j]? = some v → cur.toList[o + j]? = some v) :
  ∀ j v, cs[j]? = some v → w.cell? ((⟨b, o, none⟩ : Addr).add j) = some v := by
 intro j v hj
 have hadd : (⟨b, o, none⟩ : Addr).add j = ⟨b, o + j, none⟩ := by unfold Addr.add; split <;> simp_all
 rw [hadd]
 have := hcs j v hj
 rw [Array.getElem?_toList] at this
 simp [World.cell?, hg, this]
theorem igrown1 (w : World) (b : Nat) (X : Array Value) : w.grownBy (w.setRow b X) (some b) :=
 ⟨rfl, rfl, rfl, by simp [World.setRow], fun k hk hne => setRow_other w b k X (fun e => hne (by rw [e]))⟩
theorem igrown2 (w : World) (b : Nat) (X : Array Value) : w.grownBy (w.drew.setRow b X) (some b) :=
 ⟨rfl, rfl, rfl, (igrown1 w.drew b X).size, (igrown1 w.drew b X).block⟩
theorem iroom (b n c i vb m vc : Nat) (cur cv : Array Value) (w : World) (hi : i < n) (hm : 0 < m) (hroom : n + m ≤ c) (hc63 : c ≤ 9223372036854775807) (hvb : vb ≠ b)
  (hg : w.heap[b]? = some (.cells cur 30 (0, 0))) (hcur : cur.size = c * 4) (hv : w.heap[vb]? = some (.cells cv 30 (0, 0))) (hcv : m * 4 ≤ cv.size)
  (h1c : ∀ v ∈ cur.toList.take (n * 4), v.oneCell' = true) (h1v : ∀ v ∈ cv.toList.take (m * 4), v.oneCell' = true) :
  Calls Try.prog 63 #[.slice (some ⟨b, 0, none⟩) n c, .int .i64 i, .slice (some ⟨vb, 0, none⟩) m vc] w fun e w' =>
   e = .returned (.slice (some ⟨b, 0, none⟩) (n + m) c) ∧ ∃ X : Array Value, X.size = c * 4 ∧ X.toList.take ((n + m) * 4) = (cur.toList.take (n * 4)).take (i * 4) ++ cv.toList.take (m * 4) ++ (cur.toList.take (n * 4)).drop (i * 4) ∧ w'.heap[b]? = some (.cells X 30 (0, 0)) ∧ w.grownBy w' (some b) := by
 have hL : (n + m) * 4 ≤ cur.toList.length := by rw [Array.length_toList, hcur]; omega
 have hvl : (cv.toList.take (m * 4)).length = m * 4 := by rw [List.length_take, Array.length_toList]; omega
 obtain ⟨c1, hc1, hl1, hS⟩ := isplice cur.toList (cv.toList.take (m * 4)) i n m 4 (by omega) hL hvl
 obtain ⟨hX1, hS2⟩ := hS _ rfl
 obtain ⟨hX2, hT⟩ := hS2 _ rfl
 have hgd : w.drew.heap[b]? = some (.cells cur 30 (0, 0)) := hg
 have k1 : ∀ ty dc sc, (Builtin.copy_ #[26, 26] ty #[.slice (some ⟨b, (i + m) * 4, none⟩) (n + m - (i + m)) dc, .slice (some ⟨b, i * 4, none⟩) (n + m - i) sc]).run Try.prog w.drew = .ok (goInt (n - i)) (w.drew.setRow b (cur.toList.take ((i + m) * 4) ++ c1 ++ cur.toList.drop ((i + m) * 4 + c1.length)).toArray) := fun ty dc sc => by
  have hmin : Nat.min (n + m - i) (n + m - (i + m)) = n - i := by show min _ _ = _; omega
  have h := icopy w.drew ty b ((i + m) * 4) (n + m - (i + m)) dc ⟨b, i * 4, none⟩ (n + m - i) sc cur c1 hgd (by rw [hmin, hl1])
   (icell w.drew b (i * 4) cur 30 hgd c1 (fun j v hj => by rw [hc1] at hj; have hk := itake _ _ _ _ hj; rwa [List.getElem?_drop] at hk))
   (by rw [hl1, hcur]; omega) (fun v hv' => h1c v (by
    rw [hc1] at hv'
    have e : (cur.toList.drop (i * 4)).take ((n - i) * 4) = (cur.toList.take (n * 4)).drop (i * 4) := by rw [List.drop_take]; congr 1; omega
    rw [e] at hv'; exact List.mem_of_mem_drop hv'))
  rw [hmin] at h
  have : ((n - i : Nat) : Int) = (n : Int) - i := by omega
  rw [show goInt ((n : Int) - i) = goInt ((n - i : Nat) : Int) by rw [this]]
  exact h
 generalize hx1 : cur.toList.take ((i + m) * 4) ++ c1 ++ cur.toList.drop ((i + m) * 4 + c1.length) = X1 at hX1 hX2 hT k1
 have hg1 : (w.drew.setRow b X1.toArray).heap[b]? = some (.cells X1.toArray 30 (0, 0)) := setRow_heap w.drew b cur X1.toArray 30 (0, 0) hgd
 have hv1 : (w.drew.setRow b X1.toArray).heap[vb]? = some (.cells cv 30 (0, 0)) := (setRow_other w.drew b vb X1.toArray hvb).trans hv
 have k2 : ∀ ty dc, (Builtin.copy_ #[26, 26] ty #[.slice (some ⟨b, i * 4, none⟩) (n + m - i) dc, .slice (some ⟨vb, 0, none⟩) m vc]).run Try.prog (w.drew.setRow b X1.toArray) = .ok (goInt m) ((w.drew.setRow b X1.toArray).setRow b (X1.take (i * 4) ++ cv.toList.take (m * 4) ++ X1.drop (i * 4 + (cv.toList.take (m * 4)).length)).toArray) := fun ty dc => by
  have hmin : Nat.min m (n + m - i) = m := by show min _ _ = _; omega
  have h := icopy (w.drew.setRow b X1.toArray) ty b (i * 4) (n + m - i) dc ⟨vb, 0, none⟩ m vc X1.toArray (cv.toList.take (m * 4)) hg1 (by rw [hmin, hvl])
   (icell _ vb 0 cv 30 hv1 _ (fun j v hj => by have hk := itake _ _ _ _ hj; rwa [Nat.zero_add]))
   (by rw [hvl]; show _ ≤ X1.toArray.size; rw [List.size_toArray, hX1]; omega) h1v
  rw [hmin] at h
  exact h
 refine (ishift b n c i vb m vc cur cv w hi hm hroom hc63 hvb hg hcur hv hcv _ _ k1 k2).mono fun e w' hE => ?_
 obtain ⟨he, rfl⟩ := hE
 refine ⟨he, _, by rw [List.size_toArray, hX2, Array.length_toList, hcur], hT, setRow_heap _ b _ _ 30 (0, 0) hg1, ?_⟩
 exact World.grownBy.trans (b := w.drew.setRow b X1.toArray) (igrown2 w b X1.toArray) (igrown1 _ b _)
/-- The list law of the road without room: what stood ahead, and zeros; then v, then what stood behind. -/
theorem isplice2 (xs vs Zs : List Value) (i n m sz : Nat) (hin : i ≤ n) (hx : xs.length = n * sz) (hv : vs.length = m * sz) (hz : (n + m - i) * sz ≤ Zs.length) :
  ∀ X0 : List Value, X0 = xs.take (i * sz) ++ Zs → ∀ X1, X1 = X0.take (i * sz) ++ vs ++ X0.drop (i * sz + vs.length) → X1.length = X0.length ∧
   ∀ X2, X2 = X1.take ((i + m) * sz) ++ xs.drop (i * sz) ++ X1.drop ((i + m) * sz + (xs.drop (i * sz)).length) → X2.length = X0.length ∧ X2.take ((n + m) * sz) = xs.take (i * sz) ++ vs ++ xs.drop (i * sz) := by
 intro X0 h0 X1 h1
 have e1 : (n - i) * sz + i * sz = n * sz := by rw [← Nat.add_mul, Nat.sub_add_cancel hin]
 have e2 : (i + m) * sz = i * sz + m * sz := Nat.add_mul ..
 have e3 : (n + m) * sz = n * sz + m * sz := Nat.add_mul ..
 have e4 : (n + m - i) * sz + i * sz = (n + m) * sz := by rw [← Nat.add_mul, Nat.sub_add_cancel (by omega)]
 have l1 : (xs.take (i * sz)).length = i * sz := by rw [List.length_take]; omega
 have l2 : (xs.drop (i * sz)).length = (n - i) * sz := by rw [List.length_drop]; omega
 have l0 : X0.length = i * sz + Zs.length := by rw [h0, List.length_append, l1]
 have t0 : X0.take (i * sz) = xs.take (i * sz) := by rw [h0]; exact List.take_left' l1
 have hX1 : X1.length = X0.length := by rw [h1]; simp only [List.length_append, hv, List.length_take, List.length_drop]; omega
 refine ⟨hX1, fun X2 h2 => ?_⟩
 have hX2 : X2.length = X0.length := by rw [h2]; simp only [List.length_append, hX1, l2, List.length_take, List.length_drop]; omega
 refine ⟨hX2, ?_⟩
 have t1 : X1.take ((i + m) * sz) = xs.take (i * sz) ++ vs := by
  have : (i + m) * sz = (xs.take (i * sz) ++ vs).length := by rw [List.length_append, l1, hv, e2]
  rw [h1, t0, this, List.take_left]
 have : (n + m) * sz = (xs.take (i * sz) ++ vs ++ xs.drop (i * sz)).length := by simp only [List.length_append, l1, l2, hv]; omega
 rw [h2, t1, this, List.take_left]
theorem igrown (b n c i vb m vc : Nat) (cur cv : Array Value) (w : World) (hi : i < n) (hm : 0 < m) (hnc : n ≤ c) (hroom : c < n + m) (hby : (n + m) * 32 ≤ 140737488355328)
  (hg : w.heap[b]? = some (.cells cur 30 (0, 0))) (hcur : cur.size = c * 4) (hv : w.heap[vb]? = some (.cells cv 30 (0, 0))) (hcv : m * 4 ≤ cv.size)
  (h1c : ∀ v ∈ cur.toList.take (n * 4), v.oneCell' = true) (h1v : ∀ v ∈ cv.toList.take (m * 4), v.oneCell' = true) :
  Calls Try.prog 63 #[.slice (some ⟨b, 0, none⟩) n c, .int .i64 i, .slice (some ⟨vb, 0, none⟩) m vc] w fun e w' =>
   ∃ G, e = .returned (.slice (some ⟨w.heap.size, 0, none⟩) (n + m) G) ∧ n + m ≤ G ∧ G ≤ maxLen ∧ ∃ X : Array Value, X.size = G * 4 ∧ X.toList.take ((n + m) * 4) = (cur.toList.take (n * 4)).take (i * 4) ++ cv.toList.take (m * 4) ++ (cur.toList.take (n * 4)).drop (i * 4) ∧ w'.heap[w.heap.size]? = some (.cells X 30 (0, 0)) ∧ w.grownBy w' none := by
 obtain ⟨i0, hi0, hz0, hzs, hzb⟩ := info_parts info30
 have hbw : b < w.heap.size := (Array.getElem?_eq_some_iff.1 hg).1
 have hvw : vb < w.heap.size := (Array.getElem?_eq_some_iff.1 hv).1
 obtain ⟨xs, hxs⟩ : ∃ xs, xs = cur.toList.take (n * 4) := ⟨_, rfl⟩
 obtain ⟨vs, hvs⟩ : ∃ vs, vs = cv.toList.take (m * 4) := ⟨_, rfl⟩
 rw [← hxs] at h1c ⊢
 rw [← hvs] at h1v ⊢
 have hxl : xs.length = n * 4 := by rw [hxs, List.length_take, Array.length_toList]; omega
 have hvl : vs.length = m * 4 := by rw [hvs, List.length_take, Array.length_toList]; omega
 have hkk : (n : Int) + (m : Int) - (i : Int) = ((n + m - i : Nat) : Int) := by omega
 have hik : i + (n + m - i) = n + m := by omega
 have htl : (xs.take (i * 4)).length = i * 4 := by rw [List.length_take]; omega
 have hold : (Builtin.firstCells i0.size i (.slice (some ⟨b, 0, none⟩) i c)).run Try.prog w.drew = .ok (xs.take (i * 4)).toArray w.drew := by
  rw [hzs]
  exact run_firstCells_some w.drew 4 i ⟨b, 0, none⟩ i c (xs.take (i * 4)) htl
   (icell w.drew b 0 cur 30 hg _ (fun j v hj => by rw [Nat.zero_add]; have h2 := itake _ _ _ _ hj; rw [hxs] at h2; exact itake _ _ _ _ h2))
 obtain ⟨G, hG⟩ : ∃ G, G = grownCap w (n + m) c 30 := ⟨_, rfl⟩
 obtain ⟨ZS, hZS⟩ : ∃ ZS : Array Value, ZS = Builtin.zeroCells ((.agg #[(.int .i64 0), (.int .i64 0), (.int .i64 0), (.bool false)]) : Value).cells (n + m - i) ++ Builtin.zeroCells ((.agg #[(.int .i64 0), (.int .i64 0), (.int .i64 0), (.bool false)]) : Value).cells (G - (n + m)) := ⟨_, rfl⟩
 have hGn : n + m ≤ G := by rw [hG]; exact grownCap_ge w _ _ _
 have hGm : G ≤ maxLen := by rw [hG]; exact grownCap_le_maxLen w (n + m) c 30 (by unfold maxLen; omega)
 have hZl : ZS.size = (G - i) * 4 := by
  rw [hZS, Array.size_append, size_zeroCells, size_zeroCells, show ((.agg #[(.int .i64 0), (.int .i64 0), (.int .i64 0), (.bool false)]) : Value).cells.size = 4 from rfl, ← Nat.add_mul]
  congr 1
  omega
 obtain ⟨ROW, hROW⟩ : ∃ ROW : Array Value, ROW = (xs.take (i * 4)).toArray ++ ZS := ⟨_, rfl⟩
 have hRl : ROW.size = G * 4 := by
  rw [hROW, Array.size_append, hZl, List.size_toArray, htl, ← Nat.add_mul]
  congr 1
  omega
 have hrz : ∀ ty, (Builtin.append_ #[26, 3] ty #[.slice (some ⟨b, 0, none⟩) i c, .int .i64 ((n : Int) + (m : Int) - (i : Int))]).run Try.prog w =
   .ok (.slice (some ⟨w.heap.size, 0, none⟩) (n + m) G) (w.drew.alloc (.cells ROW 30)) := fun ty => by
  have h := Lib.run_append_grow_zeros w 26 3 ty 30 i0 _ .i64 .i64 Try.underlying26 Try.underlying3 hi0 hz0 (some ⟨b, 0, none⟩) i c (xs.take (i * 4)) hold (n + m - i) (by omega) (by omega) (by omega) (by omega) (by rw [hzb]; omega) (by rw [hzb, hik]; exact growslice_fits hroom hby)
  rw [hik, ← hG] at h
  rw [hkk, hROW, hZS, ← Array.append_assoc]
  exact h
 have hRt : ROW.toList = xs.take (i * 4) ++ ZS.toList := by rw [hROW, Array.toList_append]
 obtain ⟨hX1, hS2⟩ := isplice2 xs vs ZS.toList i n m 4 (by omega) hxl hvl (by rw [Array.length_toList, hZl]; exact Nat.mul_le_mul_right _ (by omega)) ROW.toList hRt _ rfl
 obtain ⟨hX2, hT⟩ := hS2 _ rfl
 have hcpA : ∀ (W : World), W.heap = (w.alloc (.cells ROW 30)).heap → ∀ ty dc, (Builtin.copy_ #[26, 26] ty #[.slice (some ⟨w.heap.size, i * 4, none⟩) (n + m - i) dc, .slice (some ⟨vb, 0, none⟩) m vc]).run Try.prog W = .ok (goInt m) (W.setRow w.heap.size (ROW.toList.take (i * 4) ++ vs ++ ROW.toList.drop (i * 4 + vs.length)).toArray) := fun W hW ty dc => by
  have hmin : Nat.min m (n + m - i) = m := by show min _ _ = _; omega
  have hWb : W.heap[w.heap.size]? = some (.cells ROW 30 (0, 0)) := by rw [hW]; exact heap_alloc_new w _
  have hWv : W.heap[vb]? = some (.cells cv 30 (0, 0)) := by rw [hW]; exact (Below.heap_alloc w _ vb hvw).trans hv
  have h := icopy W ty w.heap.size (i * 4) (n + m - i) dc ⟨vb, 0, none⟩ m vc ROW vs hWb (by rw [hmin, hvl])
   (icell W vb 0 cv 30 hWv _ (fun j v hj => by rw [hvs] at hj; have hk := itake _ _ _ _ hj; rwa [Nat.zero_add]))
   (by rw [hvl, hRl]; omega) h1v
  rw [hmin] at h
  exact h
 generalize hx1 : ROW.toList.take (i * 4) ++ vs ++ ROW.toList.drop (i * 4 + vs.length) = X1 at hX1 hX2 hT hcpA
 have hdl : (xs.drop (i * 4)).length = (n - i) * 4 := by rw [List.length_drop, hxl, Nat.sub_mul]
 have hcpB : ∀ (W : World), W.heap = ((w.alloc (.cells ROW 30)).setRow w.heap.size X1.toArray).heap → ∀ ty dc sc, (Builtin.copy_ #[26, 26] ty #[.slice (some ⟨w.heap.size, (i + m) * 4, none⟩) (n + m - (i + m)) dc, .slice (some ⟨b, i * 4, none⟩) (n - i) sc]).run Try.prog W = .ok (goInt (n - i)) (W.setRow w.heap.size (X1.take ((i + m) * 4) ++ xs.drop (i * 4) ++ X1.drop ((i + m) * 4 + (xs.drop (i * 4)).length)).toArray) := fun W hW ty dc sc => by
  have hmin : Nat.min (n - i) (n + m - (i + m)) = n - i := by show min _ _ = _; omega
  have hWb : W.heap[w.heap.size]? = some (.cells X1.toArray 30 (0, 0)) := by rw [hW]; exact setRow_heap _ _ ROW _ 30 (0, 0) (heap_alloc_new w _)
  have hWo : W.heap[b]? = some (.cells cur 30 (0, 0)) := by rw [hW]; exact (setRow_other _ _ _ _ (by omega)).trans ((Below.heap_alloc w _ b hbw).trans hg)
  have h := icopy W ty w.heap.size ((i + m) * 4) (n + m - (i + m)) dc ⟨b, i * 4, none⟩ (n - i) sc X1.toArray (xs.drop (i * 4)) hWb (by rw [hmin, hdl])
   (icell W b (i * 4) cur 30 hWo _ (fun j v hj => by rw [List.getElem?_drop, hxs] at hj; exact itake _ _ _ _ hj))
   (by rw [hdl, List.size_toArray, hX1, Array.length_toList, hRl]; omega) (fun v hv' => h1c v (List.mem_of_mem_drop hv'))
  rw [hmin] at h
  have : ((n - i : Nat) : Int) = (n : Int) - i := by omega
  rw [show goInt ((n : Int) - i) = goInt ((n - i : Nat) : Int) by rw [this]]
  exact h
 refine (igrow b n c i vb m vc G w ROW _ _ hi hm hnc hroom (by omega) hGn (by unfold maxLen at hGm; omega) hrz hcpA hcpB).mono fun e w' hE => ?_
 obtain ⟨he, rfl⟩ := hE
 refine ⟨G, he, hGn, hGm, _, by rw [List.size_toArray, hX2, Array.length_toList, hRl], hT, setRow_heap _ w.heap.size X1.toArray _ 30 (0, 0) (setRow_heap _ w.heap.size ROW _ 30 (0, 0) (heap_alloc_new w _)), ?_⟩
 refine ⟨rfl, rfl, rfl, Nat.le_trans (World.grownBy_alloc w (.cells ROW 30) none).size (Nat.le_trans (igrown1 ((w.alloc (.cells ROW 30)).drew) w.heap.size X1.toArray).size (igrown1 _ w.heap.size _).size), fun k hk _ => ?_⟩
 have hne : k ≠ w.heap.size := by omega
 exact (setRow_other _ w.heap.size k _ hne).trans ((setRow_other _ w.heap.size k _ hne).trans (Below.heap_alloc w _ k hk))
set_option maxHeartbeats 4000000 in
set_option maxRecDepth 100000 in
theorem iend (A : Option Addr) (n c m vb vc : Nat) (w w1 : World) (v1 : Value) (hm : 0 < m) (hnc : n ≤ c) (h63 : n + m ≤ 1000000000000000) (hc63 : c ≤ 9223372036854775807)
  (hrun : ∀ ty, (Builtin.append_ #[26, 26] ty #[.slice A n c, .slice (some ⟨vb, 0, none⟩) m vc]).run Try.prog w = .ok v1 w1) :
  Calls Try.prog 63 #[.slice A n c, .int .i64 n, .slice (some ⟨vb, 0, none⟩) m vc] w fun e w' => e = .returned v1 ∧ w' = w1 := by
 have hz1 : ¬ ((m : Int) = 0) := by omega
 obtain ⟨i0, hi0, _, hsz0, _⟩ := info_parts info30
 have hcut := cut_from (P := Try.prog) 26 30 .i64 Try.underlying26 hi0 4 hsz0 A n c (n : Int) (by omega) (by omega)
 clear hi0 hsz0
 go_enter Try.func63, Try.ntmps63
 go_wp2_with (first
  | (at_builtin; refine Lib.wpList_append_run _ rfl _ _ _ _ rfl _ _ rfl rfl _ _ (hrun _) ?_))
 all_goals (go_ret; exact ⟨rfl, rfl⟩)
theorem iown (base : Nat) (v0 v2 : Value) (n i m : Nat) (xs ys : List Value) (w : World) (h0 : w.ownsRow base 30 4 v0 n xs) (h2 : w.ownsRow base 30 4 v2 m ys) (hne : v0.ownBlock = none ∨ v2.ownBlock ≠ v0.ownBlock)
  (hi : i ≤ n) (hm : 0 < m) (hby : (n + m) * 32 ≤ 140737488355328) (hbase : base ≤ w.heap.size) (h1x : ∀ v ∈ xs, v.oneCell' = true) (h1y : ∀ v ∈ ys, v.oneCell' = true) :
  Calls Try.prog 63 #[v0, .int .i64 i, v2] w fun e w' =>
   ∃ v' : Value, e = .returned v' ∧ w'.ownsRow base 30 4 v' (n + m) (xs.take (i * 4) ++ ys ++ xs.drop (i * 4)) ∧ w.grownBy w' v0.ownBlock ∧ (v'.ownBlock = v0.ownBlock ∨ v'.ownBlock = some w.heap.size) := by
 have hlen : (xs.take (i * 4) ++ ys ++ xs.drop (i * 4)).length = (n + m) * 4 := by simp only [List.length_append, List.length_take, List.length_drop, h0.1, h2.1]; omega
 obtain ⟨vb, vc, cv, rfl, hvb, hv, hmc, hvm, hcv, hvt⟩ : ∃ g cap cur, v2 = .slice (some ⟨g, 0, none⟩) m cap ∧ base ≤ g ∧ w.heap[g]? = some (.cells cur 30 (0, 0)) ∧ m ≤ cap ∧ cap ≤ maxLen ∧ cur.size = cap * 4 ∧ cur.toList.take (m * 4) = ys := by
  rcases h2.2 with h | h
  ·omega
  ·exact h
 have hcv' : m * 4 ≤ cv.size := by rw [hcv]; exact Nat.mul_le_mul_right _ hmc
 rcases Nat.lt_or_eq_of_le hi with hlt | rfl
 ·obtain ⟨b, c, cur, rfl, hb, hg, hnc, hcm, hcs, ht⟩ : ∃ g cap cur, v0 = .slice (some ⟨g, 0, none⟩) n cap ∧ base ≤ g ∧ w.heap[g]? = some (.cells cur 30 (0, 0)) ∧ n ≤ cap ∧ cap ≤ maxLen ∧ cur.size = cap * 4 ∧ cur.toList.take (n * 4) = xs := by
   rcases h0.2 with h | h
   ·omega
   ·exact h
  have hne' : vb ≠ b := by
   rcases hne with h | h
   ·simp [Value.ownBlock] at h
   ·simpa [Value.ownBlock] using h
  by_cases hroom : n + m ≤ c
  ·refine (iroom b n c i vb m vc cur cv w hlt hm hroom (by unfold maxLen at hcm; omega) hne' hg hcs hv hcv' (by rw [ht]; exact h1x) (by rw [hvt]; exact h1y)).mono fun e w' hE => ?_
   obtain ⟨he, X, hXs, hXt, hXh, hgr⟩ := hE
   rw [ht, hvt] at hXt
   exact ⟨_, he, ⟨hlen, .inr ⟨b, c, X, rfl, hb, hXh, hroom, hcm, hXs, hXt⟩⟩, hgr, .inl rfl⟩
  ·refine (igrown b n c i vb m vc cur cv w hlt hm hnc (by omega) hby hg hcs hv hcv' (by rw [ht]; exact h1x) (by rw [hvt]; exact h1y)).mono fun e w' hE => ?_
   obtain ⟨G, he, hGn, hGm, X, hXs, hXt, hXh, hgr⟩ := hE
   rw [ht, hvt] at hXt
   exact ⟨_, he, ⟨hlen, .inr ⟨w.heap.size, G, X, rfl, hbase, hXh, hGn, hGm, hXs, hXt⟩⟩, ⟨hgr.os, hgr.tape, hgr.output, hgr.size, fun k hk _ => hgr.block k hk (by simp)⟩, .inr rfl⟩
 ·obtain ⟨i0, hi0, hz0, hzs, hzb⟩ := info_parts info30
  have hxd : xs.drop (i * 4) = [] := List.drop_eq_nil_of_le (by rw [h0.1]; exact Nat.le_refl _)
  have hxt : xs.take (i * 4) = xs := List.take_of_length_le (by rw [h0.1]; exact Nat.le_refl _)
  rw [hxd, hxt, List.append_nil]
  obtain ⟨A, c, rfl⟩ := own_slice h0
  have hnc := own_le h0
  have hcm : c ≤ 9223372036854775807 := by
   rcases h0.2 with ⟨h, _⟩ | ⟨_, _, _, h, _, _, _, hcm, _⟩
   ·injection h with _ _ h; omega
   ·injection h with _ _ h; unfold maxLen at hcm; omega
  obtain ⟨v1, w1, hrun, ho1, hg1, _, hat⟩ := run_append_own_at (P := Try.prog) w base 26 26 30 i0 _ 4 32 Try.underlying26 hi0 hz0 hzs hzb rfl (by decide) (.slice A i c) i xs h0 ⟨vb, 0, none⟩ m vc ys h2.1
   (icell w vb 0 cv 30 hv _ (fun j v hj => by rw [← hvt] at hj; have hk := itake _ _ _ _ hj; rwa [Nat.zero_add])) h1y (by unfold maxLen; omega) hby hbase
  have hrun' : ∀ ty, (Builtin.append_ #[26, 26] ty #[.slice A i c, .slice (some ⟨vb, 0, none⟩) m vc]).run Try.prog w = .ok v1 w1 := fun _ => hrun
  refine (iend A i c m vb vc w w1 v1 hm hnc (by omega) hcm hrun').mono fun e w' hE => ?_
  obtain ⟨he, rfl⟩ := hE
  exact ⟨v1, he, ho1, hg1, hat⟩
/-- Insert, both rows of the call's own, v with an element at least. -/
theorem irows {α : Type} (d : Kd α) (hds : d.sz = 4) (base : Nat) (v0 v2 : Value) (l0 l2 : List α) (i : Nat) (P0 P2 : Nat → Prop) (w0 w : World) (hB : Below base w0 w) (ho0 : d.R 30 w base P0 v0 l0) (ho2 : d.R 30 w base P2 v2 l2) (h20 : ∀ k, P2 k → ¬ P0 k)
  (hi : i ≤ l0.length) (hm : 0 < l2.length) (hby : (l0.length + l2.length) * 32 ≤ 140737488355328) (hbase : base ≤ w.heap.size) :
  Calls Try.prog 63 #[v0, .int .i64 i, v2] w fun e w' =>
   ∃ v' : Value, e = .returned v' ∧ d.R 30 w' base (fun k => ((P0 k ∨ P2 k) ∨ w.heap.size ≤ k)) v' (l0.take i ++ l2 ++ l0.drop i) ∧ Below base w0 w' ∧ Kept w w' (fun k => P0 k ∨ P2 k) := by
 obtain ⟨hk0, inner0, hown0, hr0⟩ := ho0
 obtain ⟨hk2, inner2, hown2, hr2⟩ := ho2
 rw [hds] at hown0 hown2 hr0 hr2
 have hne : v0.ownBlock = none ∨ v2.ownBlock ≠ v0.ownBlock := by
  cases h : v0.ownBlock with
  | none => exact .inl rfl
  | some k => exact .inr (fun e => h20 k (hk2 k e) (hk0 k h))
 have ho' : Calls Try.prog 63 #[v0, .int .i64 i, v2] w _ := iown base v0 v2 l0.length i l2.length inner0 inner2 w hown0 hown2 hne hi hm hby hbase
  (Kd.reps_one hr0 (by decide) (fun p c hp => d.K_one (d.K_of_M hp))) (Kd.reps_one hr2 (by decide) (fun p c hp => d.K_one (d.K_of_M hp)))
 refine ho'.mono fun e w' hE => ?_
 obtain ⟨v', he, ho, hg, hat⟩ := hE
 have step : ∀ {q : α} {c : List Value} {o : Nat → Prop}, d.M w base o q c → (∀ k, o k → (P0 k ∨ P2 k) ∧ some k ≠ v0.ownBlock) → d.M w' base (fun k => ((P0 k ∨ P2 k) ∨ w.heap.size ≤ k) ∧ some k ≠ v'.ownBlock) q c := by
  intro q c o hq ho
  have h1 := d.M_move (w1 := w') (fun k hk => hg.block k hk.2.2.1 (ho k hk.1).2) (d.M_bound hq)
  refine d.M_mono (fun k hk => ⟨.inl (ho k hk.1).1, ?_⟩) h1
  rcases hat with hat | hat
  ·rw [hat]; exact (ho k hk.1).2
  ·rw [hat]
   intro e
   injection e with e
   have := hk.2.2.1
   omega
 have r0 : Reps (d.M w' base (fun k => ((P0 k ∨ P2 k) ∨ w.heap.size ≤ k) ∧ some k ≠ v'.ownBlock)) 4 l0 inner0 := hr0.imp_ (fun _ _ hq => step hq (fun k hk => ⟨.inl hk.1, hk.2⟩))
 have r2 : Reps (d.M w' base (fun k => ((P0 k ∨ P2 k) ∨ w.heap.size ≤ k) ∧ some k ≠ v'.ownBlock)) 4 l2 inner2 := hr2.imp_ (fun _ _ hq => step hq (fun k hk => ⟨.inr hk.1, fun e => h20 k hk.1 (hk0 k e.symm)⟩))
 have hL : (l0.take i ++ l2 ++ l0.drop i).length = l0.length + l2.length := by simp only [List.length_append, List.length_take, List.length_drop]; omega
 refine ⟨v', he, ⟨fun k hk => ?_, _, by rw [hL, hds]; exact ho, by rw [hds]; exact Kd.reps_append (Kd.reps_append (Kd.reps_take r0 hi) r2) (Kd.reps_drop r0)⟩, hB.grown hg hbase (own_base hown0), Kept.of_grown hg (Kept.refl w _) (fun k e => .inl (.inl (hk0 k e)))⟩
 rcases hat with hat | hat
 ·exact .inl (.inl (hk0 k (hat ▸ hk)))
 ·rw [hat] at hk
  injection hk with hk
  exact .inr (by omega)
end impl_Fact_63_
theorem impl_Fact_63.what (l0 : List (S30)) (a1 : Int) (l2 r : List (S30)) (h : impl_Fact_63.f l0 a1 l2 = some r) (hm : 0 < l2.length) : 0 ≤ a1 ∧ a1 ≤ (l0.length : Int) ∧ l0.length + l2.length < 4398046511104 ∧ r = l0.take a1.toNat ++ l2 ++ l0.drop a1.toNat := by
 unfold impl_Fact_63.f at h
 by_cases h0 : 0 ≤ a1
 ·rw [if_pos h0] at h
  by_cases h1 : a1 ≤ (l0.length : Int)
  ·rw [if_pos h1, if_neg (by omega)] at h
   simp only [Option.bind_some, List.nil_append] at h
   by_cases h2 : ([] : List (S30)).length + (l0.take a1.toNat).length < 4398046511104
   ·rw [if_pos h2] at h
    by_cases h3 : (l0.take a1.toNat).length + l2.length < 4398046511104
    ·rw [if_pos h3] at h
     by_cases h4 : (l0.take a1.toNat ++ l2).length + (l0.drop a1.toNat).length < 4398046511104
     ·rw [if_pos h4] at h
      have h5 : l0.length + l2.length < 4398046511104 := by
       simp only [List.length_append, List.length_take, List.length_drop] at h4
       omega
      by_cases h6 : (l0.length : Int) = 0
      ·rw [if_pos h6] at h
       obtain rfl := Option.some.inj h
       obtain rfl : l0 = [] := List.eq_nil_of_length_eq_zero (by omega)
       exact ⟨h0, h1, h5, by simp⟩
      ·rw [if_neg h6] at h
       obtain rfl := Option.some.inj h
       exact ⟨h0, h1, h5, rfl⟩
     ·rw [if_neg h4] at h
      cases h
    ·rw [if_neg h3] at h
     cases h
   ·rw [if_neg h2] at h
    cases h
  ·rw [if_neg h1] at h
   cases h
 ·rw [if_neg h0] at h
  cases h
set_option maxHeartbeats 8000000 in
set_option maxRecDepth 100000 in
theorem impl_Fact_63.calls (P0_ : Nat → Prop) (u9000_ : Value) (l0 : List (S30)) (a1 : Int) (P2_ : Nat → Prop) (u9001_ : Value) (l2 : List (S30)) (r : List (S30)) (w0 w : World) (hB : Below w0.heap.size w0 w) (ho0 : Kd.R k30 30 w w0.heap.size P0_ u9000_ l0) (hp0_2 : ∀ k_, P0_ k_ → ¬ P2_ k_) (ho2 : Kd.R k30 30 w w0.heap.size P2_ u9001_ l2) (hp2_0 : ∀ k_, P2_ k_ → ¬ P0_ k_) (h : impl_Fact_63.f l0 a1 l2 = some r) :
  Calls Try.prog 63 #[u9000_, .int .i64 a1, u9001_] w fun e w' => ∃ v0_ : Value, e = .returned (v0_) ∧ Kd.R k30 30 w' w0.heap.size (fun k_ => ((P0_ k_ ∨ P2_ k_) ∨ w.heap.size ≤ k_)) v0_ r ∧ Below w0.heap.size w0 w' ∧ Kept w w' (fun k_ => P0_ k_ ∨ P2_ k_) := by
 by_cases cm_ : 0 < l2.length
 ·obtain ⟨q1_, q2_, q3_, q4_⟩ := impl_Fact_63.what l0 a1 l2 r h cm_
  obtain ⟨i_, rfl⟩ : ∃ i : Nat, a1 = i := ⟨a1.toNat, by omega⟩
  rw [Int.toNat_natCast] at q4_
  rw [q4_]
  exact impl_Fact_63_.irows k30 rfl w0.heap.size u9000_ u9001_ l0 l2 i_ P0_ P2_ w0 w hB ho0 ho2 hp2_0 (by omega) cm_ (by omega) hB.size
 have cz_ : (l2.length : Int) = 0 := by omega
 have HO0 := Zz.mk (show Kd.R k30 30 w w0.heap.size (fun k_ => ((P0_ k_ ∨ P2_ k_) ∨ w.heap.size ≤ k_) ∧ some k_ ≠ (u9001_ : Value).ownBlock) u9000_ l0 from Kd.R_mono ho0 (fun k_ hk => ⟨(.inl (.inl hk)), fun e_ => hp0_2 k_ hk (ho2.1 k_ e_.symm)⟩))
 have HO2 := Zz.mk (show Kd.R k30 30 w w0.heap.size (fun k_ => ((P0_ k_ ∨ P2_ k_) ∨ w.heap.size ≤ k_) ∧ some k_ ≠ (u9000_ : Value).ownBlock) u9001_ l2 from Kd.R_mono ho2 (fun k_ hk => ⟨(.inl (.inr hk)), fun e_ => hp2_0 k_ hk (ho0.1 k_ e_.symm)⟩))
 have HK := Zz.mk (Kept.refl w (fun k_ => P0_ k_ ∨ P2_ k_))
 have HW0 := Zz.mk hB.size
 have HB := Zz.mk hB
 clear hB
 have H : (if 0 ≤ a1 then (if a1 ≤ (l0.length : Int) then (if (l2.length : Int) = 0 then (some l0) else ((some (([] : List (S30)) : List (S30))).bind fun y240 => ((some (l0.take (a1 : Int).toNat : List (S30))).bind fun y243 => (if y240.length + y243.length < 4398046511104 then ((some (y240 ++ y243 : List (S30))).bind fun y247 => (if y247.length + l2.length < 4398046511104 then ((some (y247 ++ l2 : List (S30))).bind fun y250 => ((some (l0.drop (a1 : Int).toNat : List (S30))).bind fun y253 => (if y250.length + y253.length < 4398046511104 then (if (l0.length : Int) = 0 then (some l2) else (some (y250 ++ y253))) else (none)))) else (none))) else (none))))) else (none)) else (none)) = some r := h
 clear h
 by_cases c4 : 0 ≤ a1
 ·rw [if_pos c4] at H
  have c4b0 := eq_true c4
  have c4b1 : decide (0 ≤ a1) = true := decide_eq_true c4
  clear c4
  by_cases c5 : a1 ≤ (l0.length : Int)
  ·rw [if_pos c5] at H
   have c5b0 := eq_true c5
   have c5b1 : decide (a1 ≤ (l0.length : Int)) = true := decide_eq_true c5
   clear c5
   obtain ⟨y236, hy236⟩ : ∃ y_ : List (S30), y_ = (l0.drop (a1 : Int).toNat) := ⟨_, rfl⟩
   replace H : (if (l2.length : Int) = 0 then (some l0) else ((some (([] : List (S30)) : List (S30))).bind fun y240 => ((some (l0.take (a1 : Int).toNat : List (S30))).bind fun y243 => (if y240.length + y243.length < 4398046511104 then ((some (y240 ++ y243 : List (S30))).bind fun y247 => (if y247.length + l2.length < 4398046511104 then ((some (y247 ++ l2 : List (S30))).bind fun y250 => ((some (l0.drop (a1 : Int).toNat : List (S30))).bind fun y253 => (if y250.length + y253.length < 4398046511104 then (if (l0.length : Int) = 0 then (some l2) else (some (y250 ++ y253))) else (none)))) else (none))) else (none))))) = some r := by first | (rw [hy236]; with_reducible exact H) | (replace H := (Option.bind_some _ _).symm.trans H; first | (rw [hy236]; with_reducible exact H) | with_reducible exact H) | with_reducible exact H | (rw [hy236]; exact H) | exact H
   have Ny236 := Zz.mk hy236
   clear hy236
   by_cases c6 : (l2.length : Int) = 0
   ·rw [if_pos c6] at H
    have c6b0 : ((l2.length : Int) == 0) = true := beq_iff_eq.mpr c6
    have c6b1 : ((l2.length : Int) != 0) = false := bne_eq_false_iff_eq.mpr c6
    clear c6
    obtain rfl := Option.some.inj H
    obtain ⟨Ao8, co8, eo8⟩ := Kd.R_slice HO0.out
    subst eo8
    have q7 : (a1 : Int) ≤ ((l0.length : Int) : Int) := of_decide_eq_true (by first | (with_reducible assumption) | assumption)
    obtain ⟨i07, hi07, _, hsz7, _⟩ := info_parts info30
    have hroom7 : l0.length ≤ co8 := (Kd.R_reads' HO0.out).2.1
    have hC7 : Kd.C k30 _ Ao8 l0.length l0 := (Kd.R_reads' HO0.out).2.2
    have q07 : (0 : Int) ≤ (a1 : Int) := of_decide_eq_true (by first | (with_reducible assumption) | assumption)
    have hcut7 := cut_from (P := Try.prog) 26 30 .i64 Try.underlying26 hi07 4 hsz7 Ao8 l0.length co8 a1 q07 q7
    have hr7 := Kd.C_drop (m := (a1 : Int).toNat) (c := co8) hC7 (by omega) hroom7
    obtain ⟨A7, hA7⟩ : ∃ A1, A1 = (if co8 = (a1 : Int).toNat then Ao8 else (Ao8 : Option Addr).map (·.add ((a1 : Int).toNat * 4))) := ⟨_, rfl⟩
    obtain ⟨c7, hc7⟩ : ∃ c1, c1 = co8 - (a1 : Int).toNat := ⟨_, rfl⟩
    have hy7 : y236.length = l0.length - (a1 : Int).toNat := (by rw [Ny236.out, List.length_drop] <;> omega)
    rw [show (l0).drop (a1 : Int).toNat = y236 from Ny236.out.symm] at hr7
    replace hr7 : Kd.C k30 _ A7 y236.length y236 := (by rw [hA7]; exact hr7)
    rw [← hy7, ← hA7, ← hc7] at hcut7
    have HR239 := Zz.mk hr7
    have HC239 := Zz.mk (show y236.length ≤ c7 from by rw [hy7, hc7]; exact Nat.sub_le_sub_right hroom7 _)
    clear hr7 hC7 hroom7 hi07 hsz7 hc7
    have KY7 := Zz.mk hy7
    have KA7 := Zz.mk hA7
    clear hy7 hA7
    have KL7 := Zz.mk (show (a1 : Int).toNat ≤ l0.length from by omega)
    replace q7 := eq_true q7
    obtain ⟨Ao9, co9, eo9⟩ := Kd.R_slice HO2.out
    subst eo9
    go_enter Try.func63, Try.ntmps63
    go_wp2
    go_ret
    exact ⟨_, by first | rfl | (simp [*, errW_none, errW_some] <;> rfl), by (with_reducible repeat (first | apply Kd.R_alloc | apply Kd.R_drewN | apply Kd.R_drew)); exact Kd.R_mono HO0.out (fun _ hk => hk.1), by repeat (first | (with_reducible first | exact HB.out | apply bwA | apply pwN | apply bw1) | exact HB.out), by repeat (first | (with_reducible first | exact HK.out | apply Kept.alloc | apply Kept.drewN | apply Kept.drew) | exact HK.out)⟩
   ·exact absurd cz_ c6
  ·rw [if_neg c5] at H
   exact absurd H (by simp)
 ·rw [if_neg c4] at H
  exact absurd H (by simp)

/-! ### impl_put: function 41 -/
def impl_put.f (k : Nat) (l0 : List (S30)) (a1_0 : Int) (a1_1 : Int) (a1_2 : Int) (a1_3 : Bool) : Option ((List (S30)) × Bool) := (impl_Fact_43.f l0).bind fun t261 => ((impl_find.f k t261 a1_0).bind fun bt264 => (if bt264.2 = true then (if 0 ≤ bt264.1 then (if bt264.1 < (t261.length : Int) then ((impl_Fact_compare.f k a1_0 a1_1 a1_2 a1_3 ((rd_T30 t261 bt264.1).f0) ((rd_T30 t261 bt264.1).f1) ((rd_T30 t261 bt264.1).f2) ((rd_T30 t261 bt264.1).f3)).bind fun t267 => (if t267 > 0 then (some ((t261.set (bt264.1 : Int).toNat (⟨a1_0, a1_1, a1_2, a1_3⟩ : S30)), true)) else (some (t261, false)))) else (none)) else (none)) else ((impl_Fact_63.f t261 bt264.1 (([(⟨a1_0, a1_1, a1_2, a1_3⟩ : S30)] : List (S30)))).bind fun t272 => (some (t272, true)))))
theorem impl_put.mono : ∀ a0 a1 a2 a3 a4 k, LeO (impl_put.f k a0 a1 a2 a3 a4) (impl_put.f (k + 1) a0 a1 a2 a3 a4) := by
 intro a0 a1 a2 a3 a4 k
 unfold impl_put.f
 repeat' first
   | (with_reducible exact impl_Fact_compare.mono _ _ _ _ _ _ _ _ _)
   | (with_reducible exact impl_find.mono _ _ _)
   | (with_reducible exact LeO.refl _)
   | (with_reducible exact LeO.none _)
   | (with_reducible refine LeO.ite ?_ ?_)
   | (with_reducible refine LeO.bind ?_ (fun _ => ?_))
   | exact impl_Fact_compare.mono _ _ _ _ _ _ _ _ _
   | exact impl_find.mono _ _ _
   | exact LeO.none _
   | refine LeO.ite ?_ ?_
   | refine LeO.bind ?_ (fun _ => ?_)
def impl_put.T6 : Bool × List (List Nat × List Nat) := (true, [([], []), ([], []), ([], []), ([1, 2], [1, 2]), ([3], [3]), ([0, 4], [0, 4]), ([5], [5]), ([6, 5], [6])])
def impl_put.B6 : List Nat := [0, 0, 0, 6, 14, 31, 63, 127]
theorem impl_put.tab6 : rtab .any (opsOf Try.f41 6) = impl_put.T6 := by kernel_rfl
theorem impl_put.bits6 : waitsOk impl_put.T6.2 impl_put.B6 = true := by kernel_rfl
set_option maxHeartbeats 8000000 in
set_option maxRecDepth 100000 in
theorem impl_put.calls (k : Nat) (A0 : Option Addr) (c0 : Nat) (l0 : List (S30)) (a1_0 : Int) (a1_1 : Int) (a1_2 : Int) (a1_3 : Bool) (r1 : List (S30)) (r2 : Bool) (w : World) (hr0 : Kd.C k30 w A0 l0.length l0) (hc0 : l0.length ≤ c0) (h : impl_put.f k l0 a1_0 a1_1 a1_2 a1_3 = some (r1, r2)) :
  Calls Try.prog 41 #[.slice A0 l0.length c0, .agg #[.int .i64 a1_0, .int .i64 a1_1, .int .i64 a1_2, .bool a1_3]] w fun e w' => ∃ v0_ : Value, e = .returned (.tuple #[v0_, .bool r2]) ∧ Kd.R k30 30 w' w.heap.size (fun _ => True) v0_ r1 ∧ Below w.heap.size w w' := by
 have hu30 := Try.underlying30
 have HR0 := Zz.mk hr0
 have HC0 := Zz.mk hc0
 clear hr0 hc0
 have HB := Zz.mk (Below.refl w.heap.size w)
 have H : ((impl_Fact_43.f l0).bind fun t261 => ((impl_find.f k t261 a1_0).bind fun bt264 => (if bt264.2 = true then (if 0 ≤ bt264.1 then (if bt264.1 < (t261.length : Int) then ((impl_Fact_compare.f k a1_0 a1_1 a1_2 a1_3 ((rd_T30 t261 bt264.1).f0) ((rd_T30 t261 bt264.1).f1) ((rd_T30 t261 bt264.1).f2) ((rd_T30 t261 bt264.1).f3)).bind fun t267 => (if t267 > 0 then (some ((t261.set (bt264.1 : Int).toNat (⟨a1_0, a1_1, a1_2, a1_3⟩ : S30)), true)) else (some (t261, false)))) else (none)) else (none)) else ((impl_Fact_63.f t261 bt264.1 (([(⟨a1_0, a1_1, a1_2, a1_3⟩ : S30)] : List (S30)))).bind fun t272 => (some (t272, true)))))) = some (r1, r2) := h
 clear h
 replace H := Option.bind_eq_some_iff.mp H
 obtain ⟨t261, A30, H⟩ := H
 replace H : ((impl_find.f k t261 a1_0).bind fun bt264 => (if bt264.2 = true then (if 0 ≤ bt264.1 then (if bt264.1 < (t261.length : Int) then ((impl_Fact_compare.f k a1_0 a1_1 a1_2 a1_3 ((rd_T30 t261 bt264.1).f0) ((rd_T30 t261 bt264.1).f1) ((rd_T30 t261 bt264.1).f2) ((rd_T30 t261 bt264.1).f3)).bind fun t267 => (if t267 > 0 then (some ((t261.set (bt264.1 : Int).toNat (⟨a1_0, a1_1, a1_2, a1_3⟩ : S30)), true)) else (some (t261, false)))) else (none)) else (none)) else ((impl_Fact_63.f t261 bt264.1 (([(⟨a1_0, a1_1, a1_2, a1_3⟩ : S30)] : List (S30)))).bind fun t272 => (some (t272, true))))) = some (r1, r2) := H
 have A3 := Zz.mk A30
 clear A30
 replace H := Option.bind_eq_some_iff.mp H
 obtain ⟨⟨t264, t265⟩, A40, H⟩ := H
 replace H : (if t265 = true then (if 0 ≤ t264 then (if t264 < (t261.length : Int) then ((impl_Fact_compare.f k a1_0 a1_1 a1_2 a1_3 ((rd_T30 t261 t264).f0) ((rd_T30 t261 t264).f1) ((rd_T30 t261 t264).f2) ((rd_T30 t261 t264).f3)).bind fun t267 => (if t267 > 0 then (some ((t261.set (t264 : Int).toNat (⟨a1_0, a1_1, a1_2, a1_3⟩ : S30)), true)) else (some (t261, false)))) else (none)) else (none)) else ((impl_Fact_63.f t261 t264 (([(⟨a1_0, a1_1, a1_2, a1_3⟩ : S30)] : List (S30)))).bind fun t272 => (some (t272, true)))) = some (r1, r2) := H
 have A4 := Zz.mk A40
 clear A40
 by_cases c5 : t265 = true
 ·subst c5
  have H1 : (if 0 ≤ t264 then (if t264 < (t261.length : Int) then ((impl_Fact_compare.f k a1_0 a1_1 a1_2 a1_3 ((rd_T30 t261 t264).f0) ((rd_T30 t261 t264).f1) ((rd_T30 t261 t264).f2) ((rd_T30 t261 t264).f3)).bind fun t267 => (if t267 > 0 then (some ((t261.set (t264 : Int).toNat (⟨a1_0, a1_1, a1_2, a1_3⟩ : S30)), true)) else (some (t261, false)))) else (none)) else (none)) = some (r1, r2) := by rw [if_pos rfl] at H; exact H
  clear H
  have H := H1
  clear H1
  by_cases c6 : 0 ≤ t264
  ·rw [if_pos c6] at H
   have c6b0 : decide (0 ≤ t264) = true := decide_eq_true c6
   clear c6
   by_cases c7 : t264 < (t261.length : Int)
   ·rw [if_pos c7] at H
    have c7b0 : decide (t264 < (t261.length : Int)) = true := decide_eq_true c7
    clear c7
    replace H := Option.bind_eq_some_iff.mp H
    obtain ⟨t267, A80, H⟩ := H
    replace H : (if t267 > 0 then (some ((t261.set (t264 : Int).toNat (⟨a1_0, a1_1, a1_2, a1_3⟩ : S30)), true)) else (some (t261, false))) = some (r1, r2) := H
    have A8 := Zz.mk A80
    clear A80
    by_cases c9 : t267 > 0
    ·rw [if_pos c9] at H
     have c9b0 : decide (0 < t267) = true := decide_eq_true c9
     clear c9
     obtain ⟨y268, hy268⟩ : ∃ y_ : List (S30), y_ = (t261.set (t264 : Int).toNat (⟨a1_0, a1_1, a1_2, a1_3⟩ : S30)) := ⟨_, rfl⟩
     replace H : (some (y268, true)) = some (r1, r2) := by first | (rw [hy268]; with_reducible exact H) | (replace H := (Option.bind_some _ _).symm.trans H; first | (rw [hy268]; with_reducible exact H) | with_reducible exact H) | with_reducible exact H | (rw [hy268]; exact H) | exact H
     have Ny268 := Zz.mk hy268
     clear hy268
     simp only [Option.some.injEq, Prod.mk.injEq] at H
     obtain ⟨rfl, rfl⟩ := H
     go_enter Try.func41, Try.ntmps41
     try go_wp2_with (first | ((with_reducible refine gate_dst (N := 3) rfl ?_); refine box_event ?hg (N := 3) ?hd (cs := #[.int .i64 a1_0, .int .i64 a1_1, .int .i64 a1_2, .bool a1_3]) (t := 30) ?hr ?_; (case hd => rfl); (case hg => rfl); (case hr => first | (go_simp; done) | (go_simp; rfl)); intro gb260 hg w11 hbox hb; have n0_ := Zz.mk (bwP (by repeat (first | (with_reducible first | exact HB.out | apply bwA | apply pwN | apply bw1) | exact HB.out)) hb); have n1_ := Zz.mk (hbox); have n2_ := Zz.mk ((by rw [hg]; exact (bwZ (by repeat (first | (with_reducible first | exact HB.out | apply bwA | apply pwN | apply bw1) | exact HB.out))) : w.heap.size ≤ gb260)); have n3_ := Zz.mk ((by rw [hg]; exact (bwZ (by repeat (first | (with_reducible first | exact HB.out | apply bwA | apply pwN | apply bw1) | exact HB.out))) : w.heap.size ≤ gb260)); clear HB; have HB := n0_; have BK260 := n1_; have GW260 := n2_; have GE260 := n3_; clear n0_ n1_ n2_ n3_; clear hb hbox hg) | ((with_reducible refine gate_callee (f := 43) rfl ?_); refine goesL_ (some 10) rfl rfl Try.func43 (by kernel_rfl) rfl #[.slice A0 l0.length c0] rfl (by (try simp only [List.map_toArray, List.map_cons, List.map_nil]); first | done | rfl | (simp only [List.length_drop, List.length_take]; rfl)) ?_; (with_reducible refine (impl_Fact_43.calls _ _ l0 t261 _ ?side1 ?side2 A3.out).mono ?_); (case side1 => repeat (first | exact (Kd.C_below HR0.out HB.out) | (with_reducible refine Kd.C_alloc ?_ _) | (with_reducible refine Kd.C_drewN ?_ _) | (with_reducible refine Kd.C_drew ?_))); (case side2 => exact HC0.out); rintro e w12 ⟨v262, rfl, ho0, hb⟩; refine ⟨_, rfl, ?_⟩; have n0_ := Zz.mk (Kd.R_lower (Kd.R_newB ho0 (g := gb260) (o := .cells #[.int .i64 a1_0, .int .i64 a1_1, .int .i64 a1_2, .bool a1_3] 30 (0, 0)) (by (with_reducible repeat (first | refine bkN ?_ _ | refine bkD ?_ | refine bkA ?_ _)); exact BK260.out)) (bwZ (by repeat (first | (with_reducible first | exact HB.out | apply bwA | apply pwN | apply bw1 | refine bwS ?_ GE260.out) | exact HB.out)))); have n1_ := Zz.mk (bkB (g := gb260) (o := .cells #[.int .i64 a1_0, .int .i64 a1_1, .int .i64 a1_2, .bool a1_3] 30 (0, 0)) (by (with_reducible repeat (first | refine bkN ?_ _ | refine bkD ?_ | refine bkA ?_ _)); exact BK260.out) hb); have n2_ := Zz.mk (bwP (by repeat (first | (with_reducible first | exact HB.out | apply bwA | apply pwN | apply bw1 | refine bwS ?_ GE260.out) | exact HB.out)) hb); clear BK260; clear HB; have HO263 := n0_; have BK260 := n1_; have HB := n2_; clear n0_ n1_ n2_; (try clear hb); (try clear hb2); (try clear hk); (try clear hi); (try clear ho0); (try clear A3); have hcz13_0 : w12.cell? ⟨gb260, 0, none⟩ = some (.int .i64 a1_0) := (bkC BK260.out 0).trans rfl; have hcz13_1 : w12.cell? ⟨gb260, 1, none⟩ = some (.int .i64 a1_1) := (bkC BK260.out 1).trans rfl; have hcz13_2 : w12.cell? ⟨gb260, 2, none⟩ = some (.int .i64 a1_2) := (bkC BK260.out 2).trans rfl; have hcz13_3 : w12.cell? ⟨gb260, 3, none⟩ = some (.bool a1_3) := (bkC BK260.out 3).trans rfl; have hfz13_0 := bkF BK260.out 0; have hfz13_1 := bkF BK260.out 1; have hfz13_2 := bkF BK260.out 2; have hfz13_3 := bkF BK260.out 3; obtain ⟨Ao14, co14, eo14⟩ := Kd.R_slice HO263.out; subst eo14) | ((with_reducible refine gate_callee (f := 56) rfl ?_); refine goesL_ (some 15) rfl rfl Try.func56 (by kernel_rfl) rfl #[.slice Ao14 t261.length co14, .int .i64 a1_0] rfl (by (try simp only [List.map_toArray, List.map_cons, List.map_nil]); first | done | rfl | (simp only [List.length_drop, List.length_take]; rfl)) ?_; (with_reducible refine (impl_find.calls k _ _ t261 a1_0 t264 true _ ?side1 ?side2 A4.out).mono ?_); (case side1 => repeat (first | exact (Kd.R_reads' HO263.out).2.2 | (with_reducible refine Kd.C_alloc ?_ _) | (with_reducible refine Kd.C_drewN ?_ _) | (with_reducible refine Kd.C_drew ?_))); (case side2 => exact (Kd.R_reads' HO263.out).2.1); rintro e w15 ⟨rfl, hb⟩; refine ⟨_, rfl, ?_⟩; have n0_ := Zz.mk (Kd.R_below (by (with_reducible repeat (first | apply Kd.R_alloc | apply Kd.R_drewN | apply Kd.R_drew)); exact HO263.out) hb); have n1_ := Zz.mk (bkB (g := gb260) (o := .cells #[.int .i64 a1_0, .int .i64 a1_1, .int .i64 a1_2, .bool a1_3] 30 (0, 0)) (by (with_reducible repeat (first | refine bkN ?_ _ | refine bkD ?_ | refine bkA ?_ _)); exact BK260.out) hb); have n2_ := Zz.mk (bwP (by repeat (first | (with_reducible first | exact HB.out | apply bwA | apply pwN | apply bw1 | refine bwS ?_ GE260.out) | exact HB.out)) hb); clear HO263; clear BK260; clear HB; have HO263 := n0_; have BK260 := n1_; have HB := n2_; clear n0_ n1_ n2_; (try clear hb); (try clear hb2); (try clear hk); (try clear hi); (try clear A4)))
     have n0_ := Zz.mk (Kd.R_drew HO263.out)
     have n1_ := Zz.mk (bkD BK260.out)
     have n2_ := Zz.mk (bw1 HB.out)
     clear HO263
     clear BK260
     clear HB
     have HO263 := n0_
     have BK260 := n1_
     have HB := n2_
     clear n0_ n1_ n2_
     have p266 : 0 ≤ (t264 : Int) := of_decide_eq_true (by first | (with_reducible assumption) | assumption)
     have q266 : t264 < (t261.length : Int) := of_decide_eq_true (by first | (with_reducible assumption) | assumption)
     obtain ⟨ad266, e266, hx266_0, hx266_1, hx266_2, hx266_3⟩ := at_T30 (Kd.R_reads' HO263.out).2.2 t264 p266 q266
     cases e266
     replace p266 := eq_true p266
     replace q266 := eq_true q266
     refine start_ (n := 8) (S := fun w' => w'.cell? ⟨gb260, 0, none⟩ = some (.int .i64 a1_0) ∧ w'.cell? ⟨gb260, 1, none⟩ = some (.int .i64 a1_1) ∧ w'.cell? ⟨gb260, 2, none⟩ = some (.int .i64 a1_2) ∧ w'.cell? ⟨gb260, 3, none⟩ = some (.bool a1_3) ∧ w'.cell? (ad266.add ((t264).toNat * 4)) = some (.int .i64 ((rd_T30 t261 t264).f0)) ∧ w'.cell? ⟨(ad266.add ((t264).toNat * 4)).block, (ad266.add ((t264).toNat * 4)).off + 1, none⟩ = some (.int .i64 ((rd_T30 t261 t264).f1)) ∧ w'.cell? ⟨(ad266.add ((t264).toNat * 4)).block, (ad266.add ((t264).toNat * 4)).off + 2, none⟩ = some (.int .i64 ((rd_T30 t261 t264).f2)) ∧ w'.cell? ⟨(ad266.add ((t264).toNat * 4)).block, (ad266.add ((t264).toNat * 4)).off + 3, none⟩ = some (.bool ((rd_T30 t261 t264).f3))) (ds := []) #[false, false, false, false, false, false, false, false] (by kernel_rfl) rfl rfl ⟨(bkC BK260.out 0).trans rfl, (bkC BK260.out 1).trans rfl, (bkC BK260.out 2).trans rfl, (bkC BK260.out 3).trans rfl, hx266_0, hx266_1, hx266_2, hx266_3⟩ (fun hHeld => ?_); refine with_tabW impl_put.tab6 impl_put.bits6 (fun HT_ HW_ => ?_)
     generalize w15.drew = w16 at HO263 BK260 HB hx266_0 hx266_1 hx266_2 hx266_3 hHeld ⊢
     refine pure_ (i := 1) (N := some 29) (v := ?_) (a' := ?_) #[false, true, false, false, false, false, false, false] rfl rfl (any_of HT_.out (by kernel_rfl)) (fun _ _ _ h => h) (Or.inl ⟨by rfl, ?_⟩) ?_ ?_
     rotate_left
     ·intro w'
      go_simp
      with_reducible rfl
     rotate_left
     ·simp only [pS, i64_w, i32_w]
      rfl
     refine pure_ (i := 2) (N := some 30) (v := ?_) (a' := ?_) #[false, true, true, false, false, false, false, false] rfl rfl (any_of HT_.out (by kernel_rfl)) (fun _ _ _ h => h) (Or.inl ⟨by rfl, ?_⟩) ?_ ?_
     rotate_left
     ·intro w'
      go_simp
      with_reducible rfl
     rotate_left
     ·simp only [pS, i64_w, i32_w]
      rfl
     refine pure_ (i := 3) (N := some 31) (v := ?_) (a' := ?_) #[false, true, true, true, false, false, false, false] rfl rfl (any_of HT_.out (by kernel_rfl)) (fun _ _ _ h => h) (Or.inl ⟨by rfl, ?_⟩) ?_ ?_
     rotate_left
     ·intro w'
      go_simp
      with_reducible rfl
     rotate_left
     ·simp only [pS, i64_w, i32_w]
      rfl
     refine take_ (i := 0) (N := some 28) (v := ?_) (a' := ?_) #[true, true, true, true, false, false, false, false] rfl rfl (take_ofW HT_.out HW_.out (by kernel_rfl)) (fun _ _ _ h => h) (Or.inl ⟨by rfl, ?_⟩) hHeld ?_ ?_
     rotate_left
     ·rintro w' ⟨s0, s1, s2, s3, s4, s5, s6, s7⟩
      go_simp
      with_reducible rfl
     rotate_left
     ·simp only [pS, i64_w, i32_w]
      rfl
     refine take_ (i := 4) (N := some 32) (v := ?_) (a' := ?_) #[true, true, true, true, true, false, false, false] rfl rfl (take_ofW HT_.out HW_.out (by kernel_rfl)) (fun _ _ _ h => h) (Or.inl ⟨by rfl, ?_⟩) hHeld ?_ ?_
     rotate_left
     ·rintro w' ⟨s0, s1, s2, s3, s4, s5, s6, s7⟩
      go_simp
      with_reducible rfl
     rotate_left
     ·simp only [pS, i64_w, i32_w]
      rfl
     refine one_ (i := 5) (N := some 33) #[true, true, true, true, true, true, false, false] rfl rfl (one_of HT_.out (by kernel_rfl)) (by decide) (fun K hK => ?_)
     refine goes_ Try.func58 (by kernel_rfl) rfl #[.agg #[.int .i64 a1_0, .int .i64 a1_1, .int .i64 a1_2, .bool a1_3], .agg #[.int .i64 ((rd_T30 t261 t264).f0), .int .i64 ((rd_T30 t261 t264).f1), .int .i64 ((rd_T30 t261 t264).f2), .bool ((rd_T30 t261 t264).f3)]] (by rfl) rfl rfl (by (try simp only [List.map_toArray, List.map_cons, List.map_nil]); first | done | rfl | (simp only [List.length_drop, List.length_take]; rfl)) ?_
     with_reducible refine (impl_Fact_compare.calls k a1_0 a1_1 a1_2 a1_3 ((rd_T30 t261 t264).f0) ((rd_T30 t261 t264).f1) ((rd_T30 t261 t264).f2) ((rd_T30 t261 t264).f3) t267 _ A8.out).mono ?_
     rintro e w17 ⟨rfl, hb⟩
     have HS4_ := (hb.cell (World.block_lt_of_cell? _ _ (hHeld.2.2.2.2.1))).trans (hHeld.2.2.2.2.1)
     have HS5_ := (hb.cell (World.block_lt_of_cell? _ _ (hHeld.2.2.2.2.2.1))).trans (hHeld.2.2.2.2.2.1)
     have HS6_ := (hb.cell (World.block_lt_of_cell? _ _ (hHeld.2.2.2.2.2.2.1))).trans (hHeld.2.2.2.2.2.2.1)
     have HS7_ := (hb.cell (World.block_lt_of_cell? _ _ (hHeld.2.2.2.2.2.2.2))).trans (hHeld.2.2.2.2.2.2.2)
     refine ⟨_, rfl, ?_⟩
     have n0_ := Zz.mk (Kd.R_below (by (with_reducible repeat (first | apply Kd.R_alloc | apply Kd.R_drewN | apply Kd.R_drew)); exact HO263.out) hb)
     have n1_ := Zz.mk (bkB (g := gb260) (o := .cells #[.int .i64 a1_0, .int .i64 a1_1, .int .i64 a1_2, .bool a1_3] 30 (0, 0)) (by (with_reducible repeat (first | refine bkN ?_ _ | refine bkD ?_ | refine bkA ?_ _)); exact BK260.out) hb)
     have n2_ := Zz.mk (bwP (by repeat (first | (with_reducible first | exact HB.out | apply bwA | apply pwN | apply bw1 | refine bwS ?_ GE260.out) | exact HB.out)) hb)
     clear HO263
     clear BK260
     clear HB
     have HO263 := n0_
     have BK260 := n1_
     have HB := n2_
     clear n0_ n1_ n2_
     (try clear hb)
     (try clear hb2)
     (try clear hk)
     (try clear hi)
     (try clear A8)
     refine hK.out _ _ ⟨(bkC BK260.out 0).trans rfl, (bkC BK260.out 1).trans rfl, (bkC BK260.out 2).trans rfl, (bkC BK260.out 3).trans rfl, HS4_, HS5_, HS6_, HS7_⟩ (fun hHeld => ?_)
     clear hK K
     refine norm_ (a' := ?_) ?_ ?_
     rotate_left
     ·show Act.put _ (some 33) _ = _
      simp only [pS, i64_w, i32_w]
      rfl
     refine pure_ (i := 6) (N := some 34) (v := ?_) (a' := ?_) #[true, true, true, true, true, true, true, false] rfl rfl (any_of HT_.out (by kernel_rfl)) (fun _ _ _ h => h) (Or.inl ⟨by rfl, ?_⟩) ?_ ?_
     rotate_left
     ·intro w'
      go_simp
      with_reducible rfl
     rotate_left
     ·simp only [pS, i64_w, i32_w]
      rfl
     refine pure_ (i := 7) (N := some 27) (v := ?_) (a' := ?_) #[true, true, true, true, true, true, true, true] rfl rfl (any_of HT_.out (by kernel_rfl)) (fun _ _ _ h => h) (Or.inl ⟨by rfl, ?_⟩) ?_ ?_
     rotate_left
     ·intro w'
      go_simp
      with_reducible rfl
     rotate_left
     ·simp only [pS, i64_w, i32_w]
      rfl
     refine done_ (done_of HT_.out (by kernel_rfl)) ?_
     have hcz18_0 : w17.cell? ⟨gb260, 0, none⟩ = some (.int .i64 a1_0) := (bkC BK260.out 0).trans rfl
     have hcz18_1 : w17.cell? ⟨gb260, 1, none⟩ = some (.int .i64 a1_1) := (bkC BK260.out 1).trans rfl
     have hcz18_2 : w17.cell? ⟨gb260, 2, none⟩ = some (.int .i64 a1_2) := (bkC BK260.out 2).trans rfl
     have hcz18_3 : w17.cell? ⟨gb260, 3, none⟩ = some (.bool a1_3) := (bkC BK260.out 3).trans rfl
     have hfz18_0 := bkF BK260.out 0
     have hfz18_1 := bkF BK260.out 1
     have hfz18_2 := bkF BK260.out 2
     have hfz18_3 := bkF BK260.out 3
     have p10 : 0 ≤ (t264 : Int) := of_decide_eq_true (by first | (with_reducible assumption) | assumption)
     have q10 : (t264 : Int) < ((t261.length : Int) : Int) := of_decide_eq_true (by first | (with_reducible assumption) | assumption)
     obtain ⟨go10, co10, eo10, gb10, gl10, cl10, HG10⟩ := Kd.R_form HO263.out (by omega)
     (first | cases eo10 | (injection eo10 with ea_ en_ ec_; (first | subst ea_ | (injection ea_ with ea_; subst ea_)); subst ec_; clear en_))
     have GB10 := Zz.mk gb10
     have GG10 := Zz.mk HG10
     clear gb10 gl10 HG10
     (first | simp only [add_plain] at hx266_0 | skip)
     (first | simp only [add_plain] at hx266_1 | skip)
     (first | simp only [add_plain] at hx266_2 | skip)
     (first | simp only [add_plain] at hx266_3 | skip)
     obtain ⟨ce10, hcl10, hM10, hcc10, hfr10⟩ := Kd.R_elem HO263.out z30 (t264 : Int) p10 q10
     obtain rfl := k30_openM hM10
     have hx10_0 : w17.cell? ⟨go10, (t264 : Int).toNat * 4, none⟩ = some (.int .i64 ((rd_T30 t261 t264).f0)) := hcc10 0 _ rfl
     have hx10_1 : w17.cell? ⟨go10, (t264 : Int).toNat * 4 + 1, none⟩ = some (.int .i64 ((rd_T30 t261 t264).f1)) := hcc10 1 _ rfl
     have hx10_2 : w17.cell? ⟨go10, (t264 : Int).toNat * 4 + 2, none⟩ = some (.int .i64 ((rd_T30 t261 t264).f2)) := hcc10 2 _ rfl
     have hx10_3 : w17.cell? ⟨go10, (t264 : Int).toNat * 4 + 3, none⟩ = some (.bool ((rd_T30 t261 t264).f3)) := hcc10 3 _ rfl
     have hf10_0 : w17.frozen? ⟨go10, (t264 : Int).toNat * 4, none⟩ = false := hfr10 0
     have hf10_1 : w17.frozen? ⟨go10, (t264 : Int).toNat * 4 + 1, none⟩ = false := hfr10 1
     have hf10_2 : w17.frozen? ⟨go10, (t264 : Int).toNat * 4 + 2, none⟩ = false := hfr10 2
     have hf10_3 : w17.frozen? ⟨go10, (t264 : Int).toNat * 4 + 3, none⟩ = false := hfr10 3
     clear hcl10 hcc10 hfr10 hM10
     replace p10 := eq_true p10
     replace q10 := eq_true q10
     have n_ := Zz.mk (Kd.R_mono (ok' := (fun k_ => k_ ≠ gb260)) HO263.out (fun k_ hk => hk.2))
     clear HO263
     have HO263 := n_
     clear n_
     have HX19 := Zz.mk (show Kd.R k30 30 w17 w.heap.size (fun k_ => k_ ≠ gb260) (.slice (some ⟨go10, 0, none⟩) t261.length co14) t261 from (by (with_reducible repeat (first | apply Kd.R_alloc | apply Kd.R_drewN | apply Kd.R_drew)); exact HO263.out))
     obtain ⟨ce19, hcl19, hM19, hcc19, hfr19⟩ := Kd.R_elem HX19.out z30 (t264 : Int) (of_decide_eq_true (by first | (with_reducible assumption) | assumption)) (by have h_ : (t264 : Int) < ((t261.length : Int) : Int) := of_decide_eq_true (by first | (with_reducible assumption) | assumption); first | exact h_ | (have e_ := (Kd.R_reads' HO263.out).1; omega) | simpa using h_)
     obtain rfl := k30_openM hM19
     have HP19 := Kd.R_seg HX19.out (t264 : Int) (of_decide_eq_true (by first | (with_reducible assumption) | assumption)) (by have h_ : (t264 : Int) < ((t261.length : Int) : Int) := of_decide_eq_true (by first | (with_reducible assumption) | assumption); first | exact h_ | (have e_ := (Kd.R_reads' HO263.out).1; omega) | simpa using h_) (seg := [.int .i64 a1_0, .int .i64 a1_1, .int .i64 a1_2, .bool a1_3]) (j := 0) hcl19 hcc19 (show 4 ≤ 4 from by decide) (x' := (⟨a1_0, a1_1, a1_2, a1_3⟩ : S30)) (k30_mkM _ _ _ (⟨a1_0, a1_1, a1_2, a1_3⟩ : S30) ) (fun _ hk => hk)
     have hx19_0 := hcc19 0 _ rfl
     (try simp only [show (k30).sz = 4 from rfl, Nat.mul_one, Nat.add_zero] at hx19_0)
     have hf19_0 := hfr19 0
     (try simp only [show (k30).sz = 4 from rfl, Nat.mul_one, Nat.add_zero] at hf19_0)
     have hx19_1 := hcc19 1 _ rfl
     (try simp only [show (k30).sz = 4 from rfl, Nat.mul_one, Nat.add_zero] at hx19_1)
     have hf19_1 := hfr19 1
     (try simp only [show (k30).sz = 4 from rfl, Nat.mul_one, Nat.add_zero] at hf19_1)
     have hx19_2 := hcc19 2 _ rfl
     (try simp only [show (k30).sz = 4 from rfl, Nat.mul_one, Nat.add_zero] at hx19_2)
     have hf19_2 := hfr19 2
     (try simp only [show (k30).sz = 4 from rfl, Nat.mul_one, Nat.add_zero] at hf19_2)
     have hx19_3 := hcc19 3 _ rfl
     (try simp only [show (k30).sz = 4 from rfl, Nat.mul_one, Nat.add_zero] at hx19_3)
     have hf19_3 := hfr19 3
     (try simp only [show (k30).sz = 4 from rfl, Nat.mul_one, Nat.add_zero] at hf19_3)
     clear hcl19 hcc19 hfr19 hM19
     try go_wp2_with (first | ((with_reducible refine gate_store (t := 30) (p := 38) rfl ?_); refine store_event (t := 30) (p := 38) (v := ?vo_w20) (w1 := ((((w17.setCell ⟨go10, (t264 : Int).toNat * 4, none⟩ (.int .i64 a1_0)).setCell ⟨go10, (t264 : Int).toNat * 4 + 1, none⟩ (.int .i64 a1_1)).setCell ⟨go10, (t264 : Int).toNat * 4 + 2, none⟩ (.int .i64 a1_2)).setCell ⟨go10, (t264 : Int).toNat * 4 + 3, none⟩ (.bool a1_3))) ?hg ?ho ?hn ?hr ?_; (case ho => rfl); (case hg => rfl); (case hn => rfl); (case hr => first | (go_simp; done) | (go_simp; rfl)); intro w20 hw; have hg : w17.grownBy w20 (some go10) := (by rw [hw]; exact HP19.2); have hp_ : Kd.R k30 30 w20 w.heap.size (fun k_ => k_ ≠ gb260) (.slice (some ⟨go10, 0, none⟩) t261.length co14) y268 := (by rw [hw, Ny268.out]; exact HP19.1); clear HP19; have n0_ := Zz.mk (bkG (g := gb260) (o := .cells #[.int .i64 a1_0, .int .i64 a1_1, .int .i64 a1_2, .bool a1_3] 30 (0, 0)) (by (with_reducible repeat (first | refine bkN ?_ _ | refine bkD ?_ | refine bkA ?_ _)); exact BK260.out) hg (Kd.R_away HO263.out (fun _ hk => hk))); have n1_ := Zz.mk (hp_); have n2_ := Zz.mk ((by rw [hw]; exact bwS (bwS (bwS (bwS (HB.out) GB10.out) GB10.out) GB10.out) GB10.out : Below w.heap.size w w20)); clear BK260; clear HO263; clear HB; have BK260 := n0_; have HO263 := n1_; have HB := n2_; clear n0_ n1_ n2_; clear hg hw hp_))
     go_ret2
     exact ⟨_, by first | rfl | (simp [*, errW_none, errW_some] <;> rfl), by (with_reducible repeat (first | apply Kd.R_alloc | apply Kd.R_drewN | apply Kd.R_drew)); exact Kd.R_mono HO263.out (fun _ hk => trivial), by repeat (first | (with_reducible first | exact HB.out | apply bwA | apply pwN | apply bw1 | refine bwS ?_ GE260.out) | exact HB.out)⟩
    ·rw [if_neg c9] at H
     have c9b0 : decide (0 < t267) = false := decide_eq_false c9
     clear c9
     simp only [Option.some.injEq, Prod.mk.injEq] at H
     obtain ⟨rfl, rfl⟩ := H
     go_enter Try.func41, Try.ntmps41
     try go_wp2_with (first | ((with_reducible refine gate_dst (N := 3) rfl ?_); refine box_event ?hg (N := 3) ?hd (cs := #[.int .i64 a1_0, .int .i64 a1_1, .int .i64 a1_2, .bool a1_3]) (t := 30) ?hr ?_; (case hd => rfl); (case hg => rfl); (case hr => first | (go_simp; done) | (go_simp; rfl)); intro gb260 hg w21 hbox hb; have n0_ := Zz.mk (bwP (by repeat (first | (with_reducible first | exact HB.out | apply bwA | apply pwN | apply bw1) | exact HB.out)) hb); have n1_ := Zz.mk (hbox); have n2_ := Zz.mk ((by rw [hg]; exact (bwZ (by repeat (first | (with_reducible first | exact HB.out | apply bwA | apply pwN | apply bw1) | exact HB.out))) : w.heap.size ≤ gb260)); have n3_ := Zz.mk ((by rw [hg]; exact (bwZ (by repeat (first | (with_reducible first | exact HB.out | apply bwA | apply pwN | apply bw1) | exact HB.out))) : w.heap.size ≤ gb260)); clear HB; have HB := n0_; have BK260 := n1_; have GW260 := n2_; have GE260 := n3_; clear n0_ n1_ n2_ n3_; clear hb hbox hg) | ((with_reducible refine gate_callee (f := 43) rfl ?_); refine goesL_ (some 10) rfl rfl Try.func43 (by kernel_rfl) rfl #[.slice A0 l0.length c0] rfl (by (try simp only [List.map_toArray, List.map_cons, List.map_nil]); first | done | rfl | (simp only [List.length_drop, List.length_take]; rfl)) ?_; (with_reducible refine (impl_Fact_43.calls _ _ l0 t261 _ ?side1 ?side2 A3.out).mono ?_); (case side1 => repeat (first | exact (Kd.C_below HR0.out HB.out) | (with_reducible refine Kd.C_alloc ?_ _) | (with_reducible refine Kd.C_drewN ?_ _) | (with_reducible refine Kd.C_drew ?_))); (case side2 => exact HC0.out); rintro e w22 ⟨v262, rfl, ho0, hb⟩; refine ⟨_, rfl, ?_⟩; have n0_ := Zz.mk (Kd.R_lower (Kd.R_newB ho0 (g := gb260) (o := .cells #[.int .i64 a1_0, .int .i64 a1_1, .int .i64 a1_2, .bool a1_3] 30 (0, 0)) (by (with_reducible repeat (first | refine bkN ?_ _ | refine bkD ?_ | refine bkA ?_ _)); exact BK260.out)) (bwZ (by repeat (first | (with_reducible first | exact HB.out | apply bwA | apply pwN | apply bw1 | refine bwS ?_ GE260.out) | exact HB.out)))); have n1_ := Zz.mk (bkB (g := gb260) (o := .cells #[.int .i64 a1_0, .int .i64 a1_1, .int .i64 a1_2, .bool a1_3] 30 (0, 0)) (by (with_reducible repeat (first | refine bkN ?_ _ | refine bkD ?_ | refine bkA ?_ _)); exact BK260.out) hb); have n2_ := Zz.mk (bwP (by repeat (first | (with_reducible first | exact HB.out | apply bwA | apply pwN | apply bw1 | refine bwS ?_ GE260.out) | exact HB.out)) hb); clear BK260; clear HB; have HO263 := n0_; have BK260 := n1_; have HB := n2_; clear n0_ n1_ n2_; (try clear hb); (try clear hb2); (try clear hk); (try clear hi); (try clear ho0); (try clear A3); have hcz23_0 : w22.cell? ⟨gb260, 0, none⟩ = some (.int .i64 a1_0) := (bkC BK260.out 0).trans rfl; have hcz23_1 : w22.cell? ⟨gb260, 1, none⟩ = some (.int .i64 a1_1) := (bkC BK260.out 1).trans rfl; have hcz23_2 : w22.cell? ⟨gb260, 2, none⟩ = some (.int .i64 a1_2) := (bkC BK260.out 2).trans rfl; have hcz23_3 : w22.cell? ⟨gb260, 3, none⟩ = some (.bool a1_3) := (bkC BK260.out 3).trans rfl; have hfz23_0 := bkF BK260.out 0; have hfz23_1 := bkF BK260.out 1; have hfz23_2 := bkF BK260.out 2; have hfz23_3 := bkF BK260.out 3; obtain ⟨Ao24, co24, eo24⟩ := Kd.R_slice HO263.out; subst eo24) | ((with_reducible refine gate_callee (f := 56) rfl ?_); refine goesL_ (some 15) rfl rfl Try.func56 (by kernel_rfl) rfl #[.slice Ao24 t261.length co24, .int .i64 a1_0] rfl (by (try simp only [List.map_toArray, List.map_cons, List.map_nil]); first | done | rfl | (simp only [List.length_drop, List.length_take]; rfl)) ?_; (with_reducible refine (impl_find.calls k _ _ t261 a1_0 t264 true _ ?side1 ?side2 A4.out).mono ?_); (case side1 => repeat (first | exact (Kd.R_reads' HO263.out).2.2 | (with_reducible refine Kd.C_alloc ?_ _) | (with_reducible refine Kd.C_drewN ?_ _) | (with_reducible refine Kd.C_drew ?_))); (case side2 => exact (Kd.R_reads' HO263.out).2.1); rintro e w25 ⟨rfl, hb⟩; refine ⟨_, rfl, ?_⟩; have n0_ := Zz.mk (Kd.R_below (by (with_reducible repeat (first | apply Kd.R_alloc | apply Kd.R_drewN | apply Kd.R_drew)); exact HO263.out) hb); have n1_ := Zz.mk (bkB (g := gb260) (o := .cells #[.int .i64 a1_0, .int .i64 a1_1, .int .i64 a1_2, .bool a1_3] 30 (0, 0)) (by (with_reducible repeat (first | refine bkN ?_ _ | refine bkD ?_ | refine bkA ?_ _)); exact BK260.out) hb); have n2_ := Zz.mk (bwP (by repeat (first | (with_reducible first | exact HB.out | apply bwA | apply pwN | apply bw1 | refine bwS ?_ GE260.out) | exact HB.out)) hb); clear HO263; clear BK260; clear HB; have HO263 := n0_; have BK260 := n1_; have HB := n2_; clear n0_ n1_ n2_; (try clear hb); (try clear hb2); (try clear hk); (try clear hi); (try clear A4)))
     have n0_ := Zz.mk (Kd.R_drew HO263.out)
     have n1_ := Zz.mk (bkD BK260.out)
     have n2_ := Zz.mk (bw1 HB.out)
     clear HO263
     clear BK260
     clear HB
     have HO263 := n0_
     have BK260 := n1_
     have HB := n2_
     clear n0_ n1_ n2_
     have p266 : 0 ≤ (t264 : Int) := of_decide_eq_true (by first | (with_reducible assumption) | assumption)
     have q266 : t264 < (t261.length : Int) := of_decide_eq_true (by first | (with_reducible assumption) | assumption)
     obtain ⟨ad266, e266, hx266_0, hx266_1, hx266_2, hx266_3⟩ := at_T30 (Kd.R_reads' HO263.out).2.2 t264 p266 q266
     cases e266
     replace p266 := eq_true p266
     replace q266 := eq_true q266
     refine start_ (n := 8) (S := fun w' => w'.cell? ⟨gb260, 0, none⟩ = some (.int .i64 a1_0) ∧ w'.cell? ⟨gb260, 1, none⟩ = some (.int .i64 a1_1) ∧ w'.cell? ⟨gb260, 2, none⟩ = some (.int .i64 a1_2) ∧ w'.cell? ⟨gb260, 3, none⟩ = some (.bool a1_3) ∧ w'.cell? (ad266.add ((t264).toNat * 4)) = some (.int .i64 ((rd_T30 t261 t264).f0)) ∧ w'.cell? ⟨(ad266.add ((t264).toNat * 4)).block, (ad266.add ((t264).toNat * 4)).off + 1, none⟩ = some (.int .i64 ((rd_T30 t261 t264).f1)) ∧ w'.cell? ⟨(ad266.add ((t264).toNat * 4)).block, (ad266.add ((t264).toNat * 4)).off + 2, none⟩ = some (.int .i64 ((rd_T30 t261 t264).f2)) ∧ w'.cell? ⟨(ad266.add ((t264).toNat * 4)).block, (ad266.add ((t264).toNat * 4)).off + 3, none⟩ = some (.bool ((rd_T30 t261 t264).f3))) (ds := []) #[false, false, false, false, false, false, false, false] (by kernel_rfl) rfl rfl ⟨(bkC BK260.out 0).trans rfl, (bkC BK260.out 1).trans rfl, (bkC BK260.out 2).trans rfl, (bkC BK260.out 3).trans rfl, hx266_0, hx266_1, hx266_2, hx266_3⟩ (fun hHeld => ?_); refine with_tabW impl_put.tab6 impl_put.bits6 (fun HT_ HW_ => ?_)
     generalize w25.drew = w26 at HO263 BK260 HB hx266_0 hx266_1 hx266_2 hx266_3 hHeld ⊢
     refine pure_ (i := 1) (N := some 29) (v := ?_) (a' := ?_) #[false, true, false, false, false, false, false, false] rfl rfl (any_of HT_.out (by kernel_rfl)) (fun _ _ _ h => h) (Or.inl ⟨by rfl, ?_⟩) ?_ ?_
     rotate_left
     ·intro w'
      go_simp
      with_reducible rfl
     rotate_left
     ·simp only [pS, i64_w, i32_w]
      rfl
     refine pure_ (i := 2) (N := some 30) (v := ?_) (a' := ?_) #[false, true, true, false, false, false, false, false] rfl rfl (any_of HT_.out (by kernel_rfl)) (fun _ _ _ h => h) (Or.inl ⟨by rfl, ?_⟩) ?_ ?_
     rotate_left
     ·intro w'
      go_simp
      with_reducible rfl
     rotate_left
     ·simp only [pS, i64_w, i32_w]
      rfl
     refine pure_ (i := 3) (N := some 31) (v := ?_) (a' := ?_) #[false, true, true, true, false, false, false, false] rfl rfl (any_of HT_.out (by kernel_rfl)) (fun _ _ _ h => h) (Or.inl ⟨by rfl, ?_⟩) ?_ ?_
     rotate_left
     ·intro w'
      go_simp
      with_reducible rfl
     rotate_left
     ·simp only [pS, i64_w, i32_w]
      rfl
     refine take_ (i := 0) (N := some 28) (v := ?_) (a' := ?_) #[true, true, true, true, false, false, false, false] rfl rfl (take_ofW HT_.out HW_.out (by kernel_rfl)) (fun _ _ _ h => h) (Or.inl ⟨by rfl, ?_⟩) hHeld ?_ ?_
     rotate_left
     ·rintro w' ⟨s0, s1, s2, s3, s4, s5, s6, s7⟩
      go_simp
      with_reducible rfl
     rotate_left
     ·simp only [pS, i64_w, i32_w]
      rfl
     refine take_ (i := 4) (N := some 32) (v := ?_) (a' := ?_) #[true, true, true, true, true, false, false, false] rfl rfl (take_ofW HT_.out HW_.out (by kernel_rfl)) (fun _ _ _ h => h) (Or.inl ⟨by rfl, ?_⟩) hHeld ?_ ?_
     rotate_left
     ·rintro w' ⟨s0, s1, s2, s3, s4, s5, s6, s7⟩
      go_simp
      with_reducible rfl
     rotate_left
     ·simp only [pS, i64_w, i32_w]
      rfl
     refine one_ (i := 5) (N := some 33) #[true, true, true, true, true, true, false, false] rfl rfl (one_of HT_.out (by kernel_rfl)) (by decide) (fun K hK => ?_)
     refine goes_ Try.func58 (by kernel_rfl) rfl #[.agg #[.int .i64 a1_0, .int .i64 a1_1, .int .i64 a1_2, .bool a1_3], .agg #[.int .i64 ((rd_T30 t261 t264).f0), .int .i64 ((rd_T30 t261 t264).f1), .int .i64 ((rd_T30 t261 t264).f2), .bool ((rd_T30 t261 t264).f3)]] (by rfl) rfl rfl (by (try simp only [List.map_toArray, List.map_cons, List.map_nil]); first | done | rfl | (simp only [List.length_drop, List.length_take]; rfl)) ?_
     with_reducible refine (impl_Fact_compare.calls k a1_0 a1_1 a1_2 a1_3 ((rd_T30 t261 t264).f0) ((rd_T30 t261 t264).f1) ((rd_T30 t261 t264).f2) ((rd_T30 t261 t264).f3) t267 _ A8.out).mono ?_
     rintro e w27 ⟨rfl, hb⟩
     have HS4_ := (hb.cell (World.block_lt_of_cell? _ _ (hHeld.2.2.2.2.1))).trans (hHeld.2.2.2.2.1)
     have HS5_ := (hb.cell (World.block_lt_of_cell? _ _ (hHeld.2.2.2.2.2.1))).trans (hHeld.2.2.2.2.2.1)
     have HS6_ := (hb.cell (World.block_lt_of_cell? _ _ (hHeld.2.2.2.2.2.2.1))).trans (hHeld.2.2.2.2.2.2.1)
     have HS7_ := (hb.cell (World.block_lt_of_cell? _ _ (hHeld.2.2.2.2.2.2.2))).trans (hHeld.2.2.2.2.2.2.2)
     refine ⟨_, rfl, ?_⟩
     have n0_ := Zz.mk (Kd.R_below (by (with_reducible repeat (first | apply Kd.R_alloc | apply Kd.R_drewN | apply Kd.R_drew)); exact HO263.out) hb)
     have n1_ := Zz.mk (bkB (g := gb260) (o := .cells #[.int .i64 a1_0, .int .i64 a1_1, .int .i64 a1_2, .bool a1_3] 30 (0, 0)) (by (with_reducible repeat (first | refine bkN ?_ _ | refine bkD ?_ | refine bkA ?_ _)); exact BK260.out) hb)
     have n2_ := Zz.mk (bwP (by repeat (first | (with_reducible first | exact HB.out | apply bwA | apply pwN | apply bw1 | refine bwS ?_ GE260.out) | exact HB.out)) hb)
     clear HO263
     clear BK260
     clear HB
     have HO263 := n0_
     have BK260 := n1_
     have HB := n2_
     clear n0_ n1_ n2_
     (try clear hb)
     (try clear hb2)
     (try clear hk)
     (try clear hi)
     (try clear A8)
     refine hK.out _ _ ⟨(bkC BK260.out 0).trans rfl, (bkC BK260.out 1).trans rfl, (bkC BK260.out 2).trans rfl, (bkC BK260.out 3).trans rfl, HS4_, HS5_, HS6_, HS7_⟩ (fun hHeld => ?_)
     clear hK K
     refine norm_ (a' := ?_) ?_ ?_
     rotate_left
     ·show Act.put _ (some 33) _ = _
      simp only [pS, i64_w, i32_w]
      rfl
     refine pure_ (i := 6) (N := some 34) (v := ?_) (a' := ?_) #[true, true, true, true, true, true, true, false] rfl rfl (any_of HT_.out (by kernel_rfl)) (fun _ _ _ h => h) (Or.inl ⟨by rfl, ?_⟩) ?_ ?_
     rotate_left
     ·intro w'
      go_simp
      with_reducible rfl
     rotate_left
     ·simp only [pS, i64_w, i32_w]
      rfl
     refine pure_ (i := 7) (N := some 27) (v := ?_) (a' := ?_) #[true, true, true, true, true, true, true, true] rfl rfl (any_of HT_.out (by kernel_rfl)) (fun _ _ _ h => h) (Or.inl ⟨by rfl, ?_⟩) ?_ ?_
     rotate_left
     ·intro w'
      go_simp
      with_reducible rfl
     rotate_left
     ·simp only [pS, i64_w, i32_w]
      rfl
     refine done_ (done_of HT_.out (by kernel_rfl)) ?_
     try go_wp2
     go_ret2
     exact ⟨_, by first | rfl | (simp [*, errW_none, errW_some] <;> rfl), by (with_reducible repeat (first | apply Kd.R_alloc | apply Kd.R_drewN | apply Kd.R_drew)); exact Kd.R_mono HO263.out (fun _ hk => trivial), by repeat (first | (with_reducible first | exact HB.out | apply bwA | apply pwN | apply bw1 | refine bwS ?_ GE260.out) | exact HB.out)⟩
   ·rw [if_neg c7] at H
    exact absurd H (by simp)
  ·rw [if_neg c6] at H
   exact absurd H (by simp)
 ·replace c5 := Bool.eq_false_iff.mpr c5
  subst c5
  have H1 : ((impl_Fact_63.f t261 t264 (([(⟨a1_0, a1_1, a1_2, a1_3⟩ : S30)] : List (S30)))).bind fun t272 => (some (t272, true))) = some (r1, r2) := by rw [if_neg (show ¬ (false = true) by decide)] at H; exact H
  clear H
  have H := H1
  clear H1
  obtain ⟨y269, hy269⟩ : ∃ y_ : List (S30), y_ = (([(⟨a1_0, a1_1, a1_2, a1_3⟩ : S30)] : List (S30))) := ⟨_, rfl⟩
  replace H : ((impl_Fact_63.f t261 t264 y269).bind fun t272 => (some (t272, true))) = some (r1, r2) := by first | (rw [hy269]; with_reducible exact H) | (replace H := (Option.bind_some _ _).symm.trans H; first | (rw [hy269]; with_reducible exact H) | with_reducible exact H) | with_reducible exact H | (rw [hy269]; exact H) | exact H
  have Ny269 := Zz.mk hy269
  clear hy269
  replace H := Option.bind_eq_some_iff.mp H
  obtain ⟨t272, A280, H⟩ := H
  replace H : (some (t272, true)) = some (r1, r2) := H
  have A28 := Zz.mk A280
  clear A280
  simp only [Option.some.injEq, Prod.mk.injEq] at H
  obtain ⟨rfl, rfl⟩ := H
  go_enter Try.func41, Try.ntmps41
  go_wp2_with (first | ((with_reducible refine gate_dst (N := 3) rfl ?_); refine box_event ?hg (N := 3) ?hd (cs := #[.int .i64 a1_0, .int .i64 a1_1, .int .i64 a1_2, .bool a1_3]) (t := 30) ?hr ?_; (case hd => rfl); (case hg => rfl); (case hr => first | (go_simp; done) | (go_simp; rfl)); intro gb260 hg w29 hbox hb; have n0_ := Zz.mk (bwP (by repeat (first | (with_reducible first | exact HB.out | apply bwA | apply pwN | apply bw1) | exact HB.out)) hb); have n1_ := Zz.mk (hbox); have n2_ := Zz.mk ((by rw [hg]; exact (bwZ (by repeat (first | (with_reducible first | exact HB.out | apply bwA | apply pwN | apply bw1) | exact HB.out))) : w.heap.size ≤ gb260)); have n3_ := Zz.mk ((by rw [hg]; exact (bwZ (by repeat (first | (with_reducible first | exact HB.out | apply bwA | apply pwN | apply bw1) | exact HB.out))) : w.heap.size ≤ gb260)); clear HB; have HB := n0_; have BK260 := n1_; have GW260 := n2_; have GE260 := n3_; clear n0_ n1_ n2_ n3_; clear hb hbox hg) | ((with_reducible refine gate_callee (f := 43) rfl ?_); refine goesL_ (some 10) rfl rfl Try.func43 (by kernel_rfl) rfl #[.slice A0 l0.length c0] rfl (by (try simp only [List.map_toArray, List.map_cons, List.map_nil]); first | done | rfl | (simp only [List.length_drop, List.length_take]; rfl)) ?_; (with_reducible refine (impl_Fact_43.calls _ _ l0 t261 _ ?side1 ?side2 A3.out).mono ?_); (case side1 => repeat (first | exact (Kd.C_below HR0.out HB.out) | (with_reducible refine Kd.C_alloc ?_ _) | (with_reducible refine Kd.C_drewN ?_ _) | (with_reducible refine Kd.C_drew ?_))); (case side2 => exact HC0.out); rintro e w30 ⟨v262, rfl, ho0, hb⟩; refine ⟨_, rfl, ?_⟩; have n0_ := Zz.mk (Kd.R_lower (Kd.R_newB ho0 (g := gb260) (o := .cells #[.int .i64 a1_0, .int .i64 a1_1, .int .i64 a1_2, .bool a1_3] 30 (0, 0)) (by (with_reducible repeat (first | refine bkN ?_ _ | refine bkD ?_ | refine bkA ?_ _)); exact BK260.out)) (bwZ (by repeat (first | (with_reducible first | exact HB.out | apply bwA | apply pwN | apply bw1 | refine bwS ?_ GE260.out) | exact HB.out)))); have n1_ := Zz.mk (bkB (g := gb260) (o := .cells #[.int .i64 a1_0, .int .i64 a1_1, .int .i64 a1_2, .bool a1_3] 30 (0, 0)) (by (with_reducible repeat (first | refine bkN ?_ _ | refine bkD ?_ | refine bkA ?_ _)); exact BK260.out) hb); have n2_ := Zz.mk (bwP (by repeat (first | (with_reducible first | exact HB.out | apply bwA | apply pwN | apply bw1 | refine bwS ?_ GE260.out) | exact HB.out)) hb); clear BK260; clear HB; have HO263 := n0_; have BK260 := n1_; have HB := n2_; clear n0_ n1_ n2_; (try clear hb); (try clear hb2); (try clear hk); (try clear hi); (try clear ho0); (try clear A3); have hcz31_0 : w30.cell? ⟨gb260, 0, none⟩ = some (.int .i64 a1_0) := (bkC BK260.out 0).trans rfl; have hcz31_1 : w30.cell? ⟨gb260, 1, none⟩ = some (.int .i64 a1_1) := (bkC BK260.out 1).trans rfl; have hcz31_2 : w30.cell? ⟨gb260, 2, none⟩ = some (.int .i64 a1_2) := (bkC BK260.out 2).trans rfl; have hcz31_3 : w30.cell? ⟨gb260, 3, none⟩ = some (.bool a1_3) := (bkC BK260.out 3).trans rfl; have hfz31_0 := bkF BK260.out 0; have hfz31_1 := bkF BK260.out 1; have hfz31_2 := bkF BK260.out 2; have hfz31_3 := bkF BK260.out 3; obtain ⟨Ao32, co32, eo32⟩ := Kd.R_slice HO263.out; subst eo32) | ((with_reducible refine gate_callee (f := 56) rfl ?_); refine goesL_ (some 15) rfl rfl Try.func56 (by kernel_rfl) rfl #[.slice Ao32 t261.length co32, .int .i64 a1_0] rfl (by (try simp only [List.map_toArray, List.map_cons, List.map_nil]); first | done | rfl | (simp only [List.length_drop, List.length_take]; rfl)) ?_; (with_reducible refine (impl_find.calls k _ _ t261 a1_0 t264 false _ ?side1 ?side2 A4.out).mono ?_); (case side1 => repeat (first | exact (Kd.R_reads' HO263.out).2.2 | (with_reducible refine Kd.C_alloc ?_ _) | (with_reducible refine Kd.C_drewN ?_ _) | (with_reducible refine Kd.C_drew ?_))); (case side2 => exact (Kd.R_reads' HO263.out).2.1); rintro e w33 ⟨rfl, hb⟩; refine ⟨_, rfl, ?_⟩; have n0_ := Zz.mk (Kd.R_below (by (with_reducible repeat (first | apply Kd.R_alloc | apply Kd.R_drewN | apply Kd.R_drew)); exact HO263.out) hb); have n1_ := Zz.mk (bkB (g := gb260) (o := .cells #[.int .i64 a1_0, .int .i64 a1_1, .int .i64 a1_2, .bool a1_3] 30 (0, 0)) (by (with_reducible repeat (first | refine bkN ?_ _ | refine bkD ?_ | refine bkA ?_ _)); exact BK260.out) hb); have n2_ := Zz.mk (bwP (by repeat (first | (with_reducible first | exact HB.out | apply bwA | apply pwN | apply bw1 | refine bwS ?_ GE260.out) | exact HB.out)) hb); clear HO263; clear BK260; clear HB; have HO263 := n0_; have BK260 := n1_; have HB := n2_; clear n0_ n1_ n2_; (try clear hb); (try clear hb2); (try clear hk); (try clear hi); (try clear A4); have hcz34_0 : w33.cell? ⟨gb260, 0, none⟩ = some (.int .i64 a1_0) := (bkC BK260.out 0).trans rfl; have hcz34_1 : w33.cell? ⟨gb260, 1, none⟩ = some (.int .i64 a1_1) := (bkC BK260.out 1).trans rfl; have hcz34_2 : w33.cell? ⟨gb260, 2, none⟩ = some (.int .i64 a1_2) := (bkC BK260.out 2).trans rfl; have hcz34_3 : w33.cell? ⟨gb260, 3, none⟩ = some (.bool a1_3) := (bkC BK260.out 3).trans rfl; have hfz34_0 := bkF BK260.out 0; have hfz34_1 := bkF BK260.out 1; have hfz34_2 := bkF BK260.out 2; have hfz34_3 := bkF BK260.out 3) | ((with_reducible refine gate_dst (N := 25) rfl ?_); refine Kd.R_lit k30 _ 30 ?hg (N := 25) ?hd (xs := ([(⟨a1_0, a1_1, a1_2, a1_3⟩ : S30)] : List (S30))) (inner := [.int .i64 a1_0, .int .i64 a1_1, .int .i64 a1_2, .bool a1_3]) (ok := fun _ => True) (okp := fun _ => True) ?hr ?hp (fun _ hk => hk) trivial (Below.refl _ _) (Nat.le_refl _) (by simp) ?_; (case hd => rfl); (case hg => rfl); (case hr => first | (go_simp; done) | (go_simp; rfl)); (case hp => exact (Reps.c4 (show Kd.M k30 _ _ _ (⟨a1_0, a1_1, a1_2, a1_3⟩ : S30) [.int .i64 a1_0, .int .i64 a1_1, .int .i64 a1_2, .bool a1_3] from (k30_mkM _ _ _ (⟨a1_0, a1_1, a1_2, a1_3⟩ : S30) )) (Reps.none _ _))); intro v270 w35 ho36 hb hg_ hnew_; clear hg_ hnew_; (first | rw [← Ny269.out] at ho36 | (simp only [Int.reduceToNat] at ho36; rw [← Ny269.out] at ho36)); have n0_ := Zz.mk (Kd.R_elder' (by (with_reducible repeat (first | apply Kd.R_alloc | apply Kd.R_drewN | apply Kd.R_drew)); exact HO263.out) (Kd.R_base ho36) hb); have n1_ := Zz.mk (Kd.R_lower (Kd.R_newB (Kd.R_new' ho36 (Kd.R_lt (by (with_reducible repeat (first | apply Kd.R_alloc | apply Kd.R_drewN | apply Kd.R_drew)); exact HO263.out))) (g := gb260) (o := .cells #[.int .i64 a1_0, .int .i64 a1_1, .int .i64 a1_2, .bool a1_3] 30 (0, 0)) (by (with_reducible repeat (first | refine bkN ?_ _ | refine bkD ?_ | refine bkA ?_ _)); exact BK260.out)) (bwZ (by repeat (first | (with_reducible first | exact HB.out | apply bwA | apply pwN | apply bw1 | refine bwS ?_ GE260.out) | exact HB.out)))); have n2_ := Zz.mk (bkB (g := gb260) (o := .cells #[.int .i64 a1_0, .int .i64 a1_1, .int .i64 a1_2, .bool a1_3] 30 (0, 0)) (by (with_reducible repeat (first | refine bkN ?_ _ | refine bkD ?_ | refine bkA ?_ _)); exact BK260.out) hb); have n3_ := Zz.mk (bwP (by repeat (first | (with_reducible first | exact HB.out | apply bwA | apply pwN | apply bw1 | refine bwS ?_ GE260.out) | exact HB.out)) hb); clear HO263; clear BK260; clear HB; have HO263 := n0_; have HO271 := n1_; have BK260 := n2_; have HB := n3_; clear n0_ n1_ n2_ n3_; clear hb ho36; obtain ⟨Ao37, co37, eo37⟩ := Kd.R_slice HO271.out; subst eo37) | ((with_reducible refine gate_callee (f := 63) rfl ?_); refine goesL_ (some 26) rfl rfl Try.func63 (by kernel_rfl) rfl #[.slice Ao32 t261.length co32, .int .i64 t264, .slice Ao37 y269.length co37] rfl (by (try simp only [List.map_toArray, List.map_cons, List.map_nil]); first | done | rfl | (simp only [List.length_drop, List.length_take]; rfl)) ?_; (with_reducible refine (impl_Fact_63.calls (fun k_ => some k_ = (.slice Ao32 t261.length co32 : Value).ownBlock) (.slice Ao32 t261.length co32) t261 t264 (fun k_ => some k_ = (.slice Ao37 y269.length co37 : Value).ownBlock) (.slice Ao37 y269.length co37) y269 t272 w _ ?side1 ?side2 ?side3 ?side4 ?side5 A28.out).mono ?_); (case side1 => repeat (first | (with_reducible first | exact HB.out | apply bwA | apply pwN | apply bw1 | refine bwS ?_ GE260.out) | exact HB.out)); (case side2 => exact Kd.R_tight rfl HO263.out); (case side3 => exact fun k_ e_ => (HO263.out.1 k_ e_.symm).2); (case side4 => exact Kd.R_tight rfl HO271.out); (case side5 => exact fun k_ e_ => (HO271.out.1 k_ e_.symm).1.2); rintro e w38 ⟨v273, rfl, ho0, hb, hkp⟩; refine ⟨_, rfl, ?_⟩; have n0_ := Zz.mk (blk_kept (by (with_reducible repeat (first | refine bkN ?_ _ | refine bkD ?_ | refine bkA ?_ _)); exact BK260.out) hkp (fun hs_ => Or.elim hs_ (fun e_ => (fun e_ => (Kd.R_away HO263.out (fun _ hk => hk.1.2)) e_) e_) (fun e_ => (fun e_ => (Kd.R_away HO271.out (fun _ hk => hk.2)) e_) e_))); have n1_ := Zz.mk (Kd.R_mono (ok' := fun k_ => k_ ≠ gb260) ho0 (fun k_ hk_ => Or.elim hk_ (fun hs_ => Or.elim hs_ (fun hs_ => fun e_ => (Kd.R_away HO263.out (fun _ hk => hk.1.2)) (by rw [← e_]; exact hs_)) (fun hs_ => fun e_ => (Kd.R_away HO271.out (fun _ hk => hk.2)) (by rw [← e_]; exact hs_))) (fun hn_ => (Kd.freshB (g := gb260) (o := .cells #[.int .i64 a1_0, .int .i64 a1_1, .int .i64 a1_2, .bool a1_3] 30 (0, 0)) (by (with_reducible repeat (first | refine bkN ?_ _ | refine bkD ?_ | refine bkA ?_ _)); exact BK260.out) k_ hn_)))); have n2_ := Zz.mk (hb); clear BK260; clear HB; clear HO263; clear HO271; have BK260 := n0_; have HO274 := n1_; have HB := n2_; clear n0_ n1_ n2_; (try clear hb); (try clear hkp); (try clear ho0); (try clear A28)))
  go_ret2
  exact ⟨_, by first | rfl | (simp [*, errW_none, errW_some] <;> rfl), by (with_reducible repeat (first | apply Kd.R_alloc | apply Kd.R_drewN | apply Kd.R_drew)); exact Kd.R_mono HO274.out (fun _ hk => trivial), by repeat (first | (with_reducible first | exact HB.out | apply bwA | apply pwN | apply bw1 | refine bwS ?_ GE260.out) | exact HB.out)⟩

end Go.Proofs.Ytjaihhgkcdnhnaa.PFnTableVersion
