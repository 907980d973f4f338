/- Functions of the program as plain functions, and that each call does what they tell. Conditions: none. -/
import Derived.Test.YtjaihhgkcdnhnaaPFnCastNewx0
import Derived.Test.YtjaihhgkcdnhnaaPFnCastNewx9
namespace Go.Proofs.Ytjaihhgkcdnhnaa.PFnCastNew
open Go.RowKit Go.Proofs.YtjaihhgkcdnhnaaW.PrintWords Go.Proofs.YtjaihhgkcdnhnaaW.PrintLast Go.Proofs.YtjaihhgkcdnhnaaW.PrintMore
set_option linter.unusedVariables false
set_option linter.unusedSimpArgs false

/-! ### impl_Fact_compare: function 58 -/
mutual
def impl_Fact_compare.j1 : Nat → Int → Int → Int → Int → Bool → Int → Int → Int → Bool → Option (Int)
 | 0, _, _, _, _, _, _, _, _, _ => none
 | k + 1, x5, x226000, x226001, x226002, x226003, x227000, x227001, x227002, x227003 => (cmp_Compare_int.f x226000 x227000).bind fun t227 => ((cmp_Compare_int.f x226001 x227001).bind fun t228 => ((cmp_Compare_int.f x226002 x227002).bind fun t229 => ((cmp_Or_int.f k (([t227, t228, t229, x5] : List Int))).bind fun t233 => (some t233))))
def impl_Fact_compare.j0 : Nat → Int → Bool → Int → Int → Int → Bool → Int → Int → Int → Bool → Option (Int)
 | 0, _, _, _, _, _, _, _, _, _, _ => none
 | k + 1, x5, x6, x226000, x226001, x226002, x226003, x227000, x227001, x227002, x227003 => if x6 = true then (impl_Fact_compare.j1 k 1 x226000 x226001 x226002 x226003 x227000 x227001 x227002 x227003) else (if x227003 = true then (if x226003 = true then (impl_Fact_compare.j1 k x5 x226000 x226001 x226002 x226003 x227000 x227001 x227002 x227003) else (impl_Fact_compare.j1 k (-1) x226000 x226001 x226002 x226003 x227000 x227001 x227002 x227003)) else (impl_Fact_compare.j1 k x5 x226000 x226001 x226002 x226003 x227000 x227001 x227002 x227003))
end
def impl_Fact_compare.f (k : Nat) (a0_0 : Int) (a0_1 : Int) (a0_2 : Int) (a0_3 : Bool) (a1_0 : Int) (a1_1 : Int) (a1_2 : Int) (a1_3 : Bool) : Option (Int) := if a0_3 = true then (impl_Fact_compare.j0 k 0 (!a1_3) a0_0 a0_1 a0_2 a0_3 a1_0 a1_1 a1_2 a1_3) else (impl_Fact_compare.j0 k 0 false a0_0 a0_1 a0_2 a0_3 a1_0 a1_1 a1_2 a1_3)
theorem impl_Fact_compare.mono_l : ∀ k, (∀ y0 y1 y2 y3 y4 y5 y6 y7 y8, LeO (impl_Fact_compare.j1 k y0 y1 y2 y3 y4 y5 y6 y7 y8) (impl_Fact_compare.j1 (k + 1) y0 y1 y2 y3 y4 y5 y6 y7 y8)) ∧ (∀ y0 y1 y2 y3 y4 y5 y6 y7 y8 y9, LeO (impl_Fact_compare.j0 k y0 y1 y2 y3 y4 y5 y6 y7 y8 y9) (impl_Fact_compare.j0 (k + 1) y0 y1 y2 y3 y4 y5 y6 y7 y8 y9))
 | 0 => ⟨fun _ _ _ _ _ _ _ _ _ r h => by simp [impl_Fact_compare.j1] at h, fun _ _ _ _ _ _ _ _ _ _ r h => by simp [impl_Fact_compare.j0] at h⟩
 | k + 1 => by
  obtain ⟨ih0, ih1⟩ := impl_Fact_compare.mono_l k; refine ⟨?_, ?_⟩
  ·intro y0 y1 y2 y3 y4 y5 y6 y7 y8
   unfold impl_Fact_compare.j1; repeat' first
   | (with_reducible exact ih0 _ _ _ _ _ _ _ _ _)
   | (with_reducible exact ih1 _ _ _ _ _ _ _ _ _ _)
   | (with_reducible exact cmp_Or_int.mono _ _)
   | (with_reducible exact LeO.refl _)
   | (with_reducible exact LeO.none _)
   | (with_reducible refine LeO.ite ?_ ?_)
   | (with_reducible refine LeO.bind ?_ (fun _ => ?_))
   | exact ih0 _ _ _ _ _ _ _ _ _
   | exact ih1 _ _ _ _ _ _ _ _ _ _
   | exact cmp_Or_int.mono _ _
   | exact LeO.none _
   | refine LeO.ite ?_ ?_
   | refine LeO.bind ?_ (fun _ => ?_)
  ·intro y0 y1 y2 y3 y4 y5 y6 y7 y8 y9
   unfold impl_Fact_compare.j0; repeat' first
   | (with_reducible exact ih0 _ _ _ _ _ _ _ _ _)
   | (with_reducible exact ih1 _ _ _ _ _ _ _ _ _ _)
   | (with_reducible exact cmp_Or_int.mono _ _)
   | (with_reducible exact LeO.refl _)
   | (with_reducible exact LeO.none _)
   | (with_reducible refine LeO.ite ?_ ?_)
   | (with_reducible refine LeO.bind ?_ (fun _ => ?_))
   | exact ih0 _ _ _ _ _ _ _ _ _
   | exact ih1 _ _ _ _ _ _ _ _ _ _
   | exact cmp_Or_int.mono _ _
   | exact LeO.none _
   | refine LeO.ite ?_ ?_
   | refine LeO.bind ?_ (fun _ => ?_)
theorem impl_Fact_compare.mono : ∀ a0 a1 a2 a3 a4 a5 a6 a7 k, LeO (impl_Fact_compare.f k a0 a1 a2 a3 a4 a5 a6 a7) (impl_Fact_compare.f (k + 1) a0 a1 a2 a3 a4 a5 a6 a7) := by
 intro a0 a1 a2 a3 a4 a5 a6 a7 k; obtain ⟨ih0, ih1⟩ := impl_Fact_compare.mono_l k; unfold impl_Fact_compare.f
 repeat' first
   | (with_reducible exact ih0 _ _ _ _ _ _ _ _ _)
   | (with_reducible exact ih1 _ _ _ _ _ _ _ _ _ _)
   | (with_reducible exact cmp_Or_int.mono _ _)
   | (with_reducible exact LeO.refl _)
   | (with_reducible exact LeO.none _)
   | (with_reducible refine LeO.ite ?_ ?_)
   | (with_reducible refine LeO.bind ?_ (fun _ => ?_))
   | exact ih0 _ _ _ _ _ _ _ _ _
   | exact ih1 _ _ _ _ _ _ _ _ _ _
   | exact cmp_Or_int.mono _ _
   | exact LeO.none _
   | refine LeO.ite ?_ ?_
   | refine LeO.bind ?_ (fun _ => ?_)
def impl_Fact_compare.T6 : Bool × List (List Nat × List Nat) := (true, [([], []), ([0], [0]), ([], []), ([2], [2]), ([1, 3], [1, 3]), ([], []), ([5], [5]), ([], []), ([7], [7]), ([6, 8, 4], [6, 8]), ([], []), ([10], [10]), ([], []), ([12], [12]), ([11, 13, 9], [11, 13]), ([], []), ([4, 9, 14, 15], [4, 9, 14, 15]), ([16, 14], [16]), ([17, 17, 0, 1, 2, 3, 4, 5, 6, 7, 8, 9, 10, 11, 12, 13, 14, 15, 16, 17], [17])])
def impl_Fact_compare.B6 : List Nat := [0, 1, 0, 4, 15, 0, 32, 0, 128, 511, 0, 1024, 0, 4096, 16383, 0, 65535, 131071, 262143]
theorem impl_Fact_compare.tab6 : rtab .any (opsOf Try.f58 6) = impl_Fact_compare.T6 := by kernel_rfl
theorem impl_Fact_compare.bits6 : waitsOk impl_Fact_compare.T6.2 impl_Fact_compare.B6 = true := by kernel_rfl
set_option maxHeartbeats 8000000 in
set_option maxRecDepth 100000 in
theorem impl_Fact_compare.calls (k : Nat) (a0_0 : Int) (a0_1 : Int) (a0_2 : Int) (a0_3 : Bool) (a1_0 : Int) (a1_1 : Int) (a1_2 : Int) (a1_3 : Bool) (r : Int) (w : World) (h : impl_Fact_compare.f k a0_0 a0_1 a0_2 a0_3 a1_0 a1_1 a1_2 a1_3 = some r) :
  Calls Try.prog 58 #[.agg #[.int .i64 a0_0, .int .i64 a0_1, .int .i64 a0_2, .bool a0_3], .agg #[.int .i64 a1_0, .int .i64 a1_1, .int .i64 a1_2, .bool a1_3]] w fun e w' => e = .returned (.int .i64 r) ∧ Below w.heap.size w w' := by
 have hu30 := Try.underlying30; have HB := Zz.mk (Below.refl w.heap.size w); have H : (if a0_3 = true then (impl_Fact_compare.j0 k 0 (!a1_3) a0_0 a0_1 a0_2 a0_3 a1_0 a1_1 a1_2 a1_3) else (impl_Fact_compare.j0 k 0 false a0_0 a0_1 a0_2 a0_3 a1_0 a1_1 a1_2 a1_3)) = some r := h; clear h; have HC3 := Zz.mk H; clear H; go_enter Try.func58, Try.ntmps58; go_upto_block 0 with (first | ((with_reducible refine gate_dst (N := 2) rfl ?_); refine box_event ?hg (N := 2) ?hd (cs := #[.int .i64 a0_0, .int .i64 a0_1, .int .i64 a0_2, .bool a0_3]) (t := 30) ?hr ?_; (case hd => rfl); (case hg => rfl); (case hr => first | (go_simp; done) | (go_simp; rfl)); intro gb225 hg w4 hbox hb; have n0_ := Zz.mk (bwP (by repeat (first | (with_reducible first | exact HB.out | apply bwA | apply pwN | apply bw1) | exact HB.out)) hb); have n1_ := Zz.mk (hbox); have n2_ := Zz.mk ((by rw [hg]; exact (bwZ (by repeat (first | (with_reducible first | exact HB.out | apply bwA | apply pwN | apply bw1) | exact HB.out))) : w.heap.size ≤ gb225)); have n3_ := Zz.mk ((by rw [hg]; exact (bwZ (by repeat (first | (with_reducible first | exact HB.out | apply bwA | apply pwN | apply bw1) | exact HB.out))) : w.heap.size ≤ gb225)); clear HB; have HB := n0_; have BK225 := n1_; have GW225 := n2_; have GE225 := n3_; clear n0_ n1_ n2_ n3_; clear hb hbox hg) | ((with_reducible refine gate_dst (N := 3) rfl ?_); refine box_event ?hg (N := 3) ?hd (cs := #[.int .i64 a1_0, .int .i64 a1_1, .int .i64 a1_2, .bool a1_3]) (t := 30) ?hr ?_; (case hd => rfl); (case hg => rfl); (case hr => first | (go_simp; done) | (go_simp; rfl)); intro gb226 hg w5 hbox hb; have n0_ := Zz.mk (bkB (g := gb225) (o := .cells #[.int .i64 a0_0, .int .i64 a0_1, .int .i64 a0_2, .bool a0_3] 30 (0, 0)) (by (with_reducible repeat (first | refine bkN ?_ _ | refine bkD ?_ | refine bkA ?_ _)); exact BK225.out) hb); have n1_ := Zz.mk (bwP (by repeat (first | (with_reducible first | exact HB.out | apply bwA | apply pwN | apply bw1 | refine bwS ?_ GE225.out) | exact HB.out)) hb); have n2_ := Zz.mk (hbox); have n3_ := Zz.mk ((by rw [hg]; exact (bwZ (by repeat (first | (with_reducible first | exact HB.out | apply bwA | apply pwN | apply bw1 | refine bwS ?_ GE225.out) | exact HB.out))) : w.heap.size ≤ gb226)); have n4_ := Zz.mk ((by rw [hg]; exact (bwZ (by repeat (first | (with_reducible first | exact HB.out | apply bwA | apply pwN | apply bw1 | refine bwS ?_ GE225.out) | exact HB.out))) : w.heap.size ≤ gb226)); have n5_ := Zz.mk ((by rw [hg]; exact Nat.ne_of_lt (blk_lt (g := gb225) (o := .cells #[.int .i64 a0_0, .int .i64 a0_1, .int .i64 a0_2, .bool a0_3] 30 (0, 0)) (by (with_reducible repeat (first | refine bkN ?_ _ | refine bkD ?_ | refine bkA ?_ _)); exact BK225.out)) : gb225 ≠ gb226)); have n6_ := Zz.mk ((by rw [hg]; exact Nat.ne_of_gt (blk_lt (g := gb225) (o := .cells #[.int .i64 a0_0, .int .i64 a0_1, .int .i64 a0_2, .bool a0_3] 30 (0, 0)) (by (with_reducible repeat (first | refine bkN ?_ _ | refine bkD ?_ | refine bkA ?_ _)); exact BK225.out)) : gb226 ≠ gb225)); clear BK225; clear HB; have BK225 := n0_; have HB := n1_; have BK226 := n2_; have GW226 := n3_; have GE226 := n4_; have NB225_226 := n5_; have NB226_225 := n6_; clear n0_ n1_ n2_ n3_ n4_ n5_ n6_; clear hb hbox hg))
 (try simp only [Act.put, List.setIfInBounds_toArray, List.set_cons_zero, List.set_cons_succ])
 go_cut [5] (fun v5 wc => ∃ (kq : Nat) (x5_2 : Int), v5 = .int .i64 x5_2 ∧ Zz (impl_Fact_compare.j1 kq x5_2 a0_0 a0_1 a0_2 a0_3 a1_0 a1_1 a1_2 a1_3 = some r) ∧ Zz (kq ≤ k) ∧ Zz (wc.heap[gb225]? = some (.cells #[.int .i64 a0_0, .int .i64 a0_1, .int .i64 a0_2, .bool a0_3] 30 (0, 0))) ∧ Zz (wc.heap[gb226]? = some (.cells #[.int .i64 a1_0, .int .i64 a1_1, .int .i64 a1_2, .bool a1_3] 30 (0, 0))) ∧ Zz (Below w.heap.size w wc))
 case first =>
  have H := HC3.out; clear HC3; have HC6 := Zz.mk H; clear H; go_upto_region 2 with (fail)
  go_cut [6] (fun v6 wc => ∃ (kq : Nat) (x6_5 : Bool), v6 = .bool x6_5 ∧ Zz (impl_Fact_compare.j0 kq 0 x6_5 a0_0 a0_1 a0_2 a0_3 a1_0 a1_1 a1_2 a1_3 = some r) ∧ Zz (kq ≤ k) ∧ Zz (wc.heap[gb225]? = some (.cells #[.int .i64 a0_0, .int .i64 a0_1, .int .i64 a0_2, .bool a0_3] 30 (0, 0))) ∧ Zz (wc.heap[gb226]? = some (.cells #[.int .i64 a1_0, .int .i64 a1_1, .int .i64 a1_2, .bool a1_3] 30 (0, 0))) ∧ Zz (Below w.heap.size w wc))
  case first =>
   have H := HC6.out; clear HC6; by_cases c7 : a0_3 = true
   ·subst c7
    have H1 : (impl_Fact_compare.j0 k 0 (!a1_3) a0_0 a0_1 a0_2 true a1_0 a1_1 a1_2 a1_3) = some r := by rw [if_pos rfl] at H; exact H
    clear H; have H := H1; clear H1; have H' := Zz.mk H; clear H; have hnb8 := NB225_226.out; have hnc8 := NB226_225.out; have hcz9_0 : w5.cell? ⟨gb225, 0, none⟩ = some (.int .i64 a0_0) := (bkC BK225.out 0).trans rfl; have hcz9_1 : w5.cell? ⟨gb225, 1, none⟩ = some (.int .i64 a0_1) := (bkC BK225.out 1).trans rfl; have hcz9_2 : w5.cell? ⟨gb225, 2, none⟩ = some (.int .i64 a0_2) := (bkC BK225.out 2).trans rfl; have hcz9_3 : w5.cell? ⟨gb225, 3, none⟩ = some (.bool true) := (bkC BK225.out 3).trans rfl; have hfz9_0 := bkF BK225.out 0; have hfz9_1 := bkF BK225.out 1; have hfz9_2 := bkF BK225.out 2; have hfz9_3 := bkF BK225.out 3; have hcz10_0 : w5.cell? ⟨gb226, 0, none⟩ = some (.int .i64 a1_0) := (bkC BK226.out 0).trans rfl; have hcz10_1 : w5.cell? ⟨gb226, 1, none⟩ = some (.int .i64 a1_1) := (bkC BK226.out 1).trans rfl; have hcz10_2 : w5.cell? ⟨gb226, 2, none⟩ = some (.int .i64 a1_2) := (bkC BK226.out 2).trans rfl; have hcz10_3 : w5.cell? ⟨gb226, 3, none⟩ = some (.bool a1_3) := (bkC BK226.out 3).trans rfl; have hfz10_0 := bkF BK226.out 0; have hfz10_1 := bkF BK226.out 1; have hfz10_2 := bkF BK226.out 2; have hfz10_3 := bkF BK226.out 3; go_wp2
    go_meet
    case rel => exact ⟨_, (!a1_3), (by first | rfl | (simp; done) | (simp [*]; done)), H', ⟨by first | omega | exact Nat.le_refl _⟩, ⟨by (with_reducible repeat (first | refine bkN ?_ _ | refine bkD ?_ | refine bkA ?_ _)); exact BK225.out⟩, ⟨by (with_reducible repeat (first | refine bkN ?_ _ | refine bkD ?_ | refine bkA ?_ _)); exact BK226.out⟩, ⟨by repeat (first | (with_reducible first | exact HB.out | apply bwA | apply pwN | apply bw1 | refine bwS ?_ GE225.out | refine bwS ?_ GE226.out) | exact HB.out)⟩⟩
   ·replace c7 := Bool.eq_false_iff.mpr c7
    subst c7; have H1 : (impl_Fact_compare.j0 k 0 false a0_0 a0_1 a0_2 false a1_0 a1_1 a1_2 a1_3) = some r := by rw [if_neg (show ¬ (false = true) by decide)] at H; exact H
    clear H; have H := H1; clear H1; have H' := Zz.mk H; clear H; have hnb11 := NB225_226.out; have hnc11 := NB226_225.out; have hcz12_0 : w5.cell? ⟨gb225, 0, none⟩ = some (.int .i64 a0_0) := (bkC BK225.out 0).trans rfl; have hcz12_1 : w5.cell? ⟨gb225, 1, none⟩ = some (.int .i64 a0_1) := (bkC BK225.out 1).trans rfl; have hcz12_2 : w5.cell? ⟨gb225, 2, none⟩ = some (.int .i64 a0_2) := (bkC BK225.out 2).trans rfl; have hcz12_3 : w5.cell? ⟨gb225, 3, none⟩ = some (.bool false) := (bkC BK225.out 3).trans rfl; have hfz12_0 := bkF BK225.out 0; have hfz12_1 := bkF BK225.out 1; have hfz12_2 := bkF BK225.out 2; have hfz12_3 := bkF BK225.out 3; go_wp2
    go_meet
    case rel => exact ⟨_, (false), (by first | rfl | (simp; done) | (simp [*]; done)), H', ⟨by first | omega | exact Nat.le_refl _⟩, ⟨by (with_reducible repeat (first | refine bkN ?_ _ | refine bkD ?_ | refine bkA ?_ _)); exact BK225.out⟩, ⟨by (with_reducible repeat (first | refine bkN ?_ _ | refine bkD ?_ | refine bkA ?_ _)); exact BK226.out⟩, ⟨by repeat (first | (with_reducible first | exact HB.out | apply bwA | apply pwN | apply bw1 | refine bwS ?_ GE225.out | refine bwS ?_ GE226.out) | exact HB.out)⟩⟩
  case rest =>
   clear HC6; try clear c1
   try clear p2
   try clear c5
   try clear c7
   try clear c8
   try clear c11
   try clear hcz10_0
   try clear hcz10_1
   try clear hcz10_2
   try clear hcz10_3
   try clear hcz12_0
   try clear hcz12_1
   try clear hcz12_2
   try clear hcz12_3
   try clear hcz9_0
   try clear hcz9_1
   try clear hcz9_2
   try clear hcz9_3
   try clear hfz10_0
   try clear hfz10_1
   try clear hfz10_2
   try clear hfz10_3
   try clear hfz12_0
   try clear hfz12_1
   try clear hfz12_2
   try clear hfz12_3
   try clear hfz9_0
   try clear hfz9_1
   try clear hfz9_2
   try clear hfz9_3
   obtain ⟨kq, x6_5, rfl, HA, HJ5, BK225, BK226, HB⟩ := hcut; cases kq with
   | zero => exact absurd HA.out (by simp [impl_Fact_compare.j0])
   | succ kj5 =>
    have H := HA.out; clear HA; simp only [impl_Fact_compare.j0] at H; by_cases c13 : x6_5 = true
    ·subst c13
     have H1 : (impl_Fact_compare.j1 kj5 1 a0_0 a0_1 a0_2 a0_3 a1_0 a1_1 a1_2 a1_3) = some r := by rw [if_pos rfl] at H; exact H
     clear H; have H := H1; clear H1; have H' := Zz.mk H; clear H; go_wp2
     go_meet
     case rel => exact ⟨_, (1), (by first | rfl | (simp; done) | (simp [*]; done)), H', ⟨by have := HJ5.out; first | omega | exact Nat.le_refl _⟩, ⟨by (with_reducible repeat (first | refine bkN ?_ _ | refine bkD ?_ | refine bkA ?_ _)); exact BK225.out⟩, ⟨by (with_reducible repeat (first | refine bkN ?_ _ | refine bkD ?_ | refine bkA ?_ _)); exact BK226.out⟩, ⟨by repeat (first | (with_reducible first | exact HB.out | apply bwA | apply pwN | apply bw1 | refine bwS ?_ GE225.out | refine bwS ?_ GE226.out) | exact HB.out)⟩⟩
    ·replace c13 := Bool.eq_false_iff.mpr c13
     subst c13; have H1 : (if a1_3 = true then (if a0_3 = true then (impl_Fact_compare.j1 kj5 0 a0_0 a0_1 a0_2 a0_3 a1_0 a1_1 a1_2 a1_3) else (impl_Fact_compare.j1 kj5 (-1) a0_0 a0_1 a0_2 a0_3 a1_0 a1_1 a1_2 a1_3)) else (impl_Fact_compare.j1 kj5 0 a0_0 a0_1 a0_2 a0_3 a1_0 a1_1 a1_2 a1_3)) = some r := by rw [if_neg (show ¬ (false = true) by decide)] at H; exact H
     clear H; have H := H1; clear H1; by_cases c14 : a1_3 = true
     ·subst c14
      have H1 : (if a0_3 = true then (impl_Fact_compare.j1 kj5 0 a0_0 a0_1 a0_2 a0_3 a1_0 a1_1 a1_2 true) else (impl_Fact_compare.j1 kj5 (-1) a0_0 a0_1 a0_2 a0_3 a1_0 a1_1 a1_2 true)) = some r := by rw [if_pos rfl] at H; exact H
      clear H; have H := H1; clear H1; by_cases c15 : a0_3 = true
      ·subst c15
       have H1 : (impl_Fact_compare.j1 kj5 0 a0_0 a0_1 a0_2 true a1_0 a1_1 a1_2 true) = some r := by rw [if_pos rfl] at H; exact H
       clear H; have H := H1; clear H1; have H' := Zz.mk H; clear H; have hnb16 := NB226_225.out; have hnc16 := NB225_226.out; have hcz17_0 : wc.cell? ⟨gb226, 0, none⟩ = some (.int .i64 a1_0) := (bkC BK226.out 0).trans rfl; have hcz17_1 : wc.cell? ⟨gb226, 1, none⟩ = some (.int .i64 a1_1) := (bkC BK226.out 1).trans rfl; have hcz17_2 : wc.cell? ⟨gb226, 2, none⟩ = some (.int .i64 a1_2) := (bkC BK226.out 2).trans rfl; have hcz17_3 : wc.cell? ⟨gb226, 3, none⟩ = some (.bool true) := (bkC BK226.out 3).trans rfl; have hfz17_0 := bkF BK226.out 0; have hfz17_1 := bkF BK226.out 1; have hfz17_2 := bkF BK226.out 2; have hfz17_3 := bkF BK226.out 3; have hcz18_0 : wc.cell? ⟨gb225, 0, none⟩ = some (.int .i64 a0_0) := (bkC BK225.out 0).trans rfl; have hcz18_1 : wc.cell? ⟨gb225, 1, none⟩ = some (.int .i64 a0_1) := (bkC BK225.out 1).trans rfl; have hcz18_2 : wc.cell? ⟨gb225, 2, none⟩ = some (.int .i64 a0_2) := (bkC BK225.out 2).trans rfl; have hcz18_3 : wc.cell? ⟨gb225, 3, none⟩ = some (.bool true) := (bkC BK225.out 3).trans rfl; have hfz18_0 := bkF BK225.out 0; have hfz18_1 := bkF BK225.out 1; have hfz18_2 := bkF BK225.out 2; have hfz18_3 := bkF BK225.out 3; go_wp2
       go_meet
       case rel => exact ⟨_, (0), (by first | rfl | (simp; done) | (simp [*]; done)), H', ⟨by have := HJ5.out; first | omega | exact Nat.le_refl _⟩, ⟨by (with_reducible repeat (first | refine bkN ?_ _ | refine bkD ?_ | refine bkA ?_ _)); exact BK225.out⟩, ⟨by (with_reducible repeat (first | refine bkN ?_ _ | refine bkD ?_ | refine bkA ?_ _)); exact BK226.out⟩, ⟨by repeat (first | (with_reducible first | exact HB.out | apply bwA | apply pwN | apply bw1 | refine bwS ?_ GE225.out | refine bwS ?_ GE226.out) | exact HB.out)⟩⟩
      ·replace c15 := Bool.eq_false_iff.mpr c15
       subst c15; have H1 : (impl_Fact_compare.j1 kj5 (-1) a0_0 a0_1 a0_2 false a1_0 a1_1 a1_2 true) = some r := by rw [if_neg (show ¬ (false = true) by decide)] at H; exact H
       clear H; have H := H1; clear H1; have H' := Zz.mk H; clear H; have hnb19 := NB226_225.out; have hnc19 := NB225_226.out; have hcz20_0 : wc.cell? ⟨gb226, 0, none⟩ = some (.int .i64 a1_0) := (bkC BK226.out 0).trans rfl; have hcz20_1 : wc.cell? ⟨gb226, 1, none⟩ = some (.int .i64 a1_1) := (bkC BK226.out 1).trans rfl; have hcz20_2 : wc.cell? ⟨gb226, 2, none⟩ = some (.int .i64 a1_2) := (bkC BK226.out 2).trans rfl; have hcz20_3 : wc.cell? ⟨gb226, 3, none⟩ = some (.bool true) := (bkC BK226.out 3).trans rfl; have hfz20_0 := bkF BK226.out 0; have hfz20_1 := bkF BK226.out 1; have hfz20_2 := bkF BK226.out 2; have hfz20_3 := bkF BK226.out 3; have hcz21_0 : wc.cell? ⟨gb225, 0, none⟩ = some (.int .i64 a0_0) := (bkC BK225.out 0).trans rfl; have hcz21_1 : wc.cell? ⟨gb225, 1, none⟩ = some (.int .i64 a0_1) := (bkC BK225.out 1).trans rfl; have hcz21_2 : wc.cell? ⟨gb225, 2, none⟩ = some (.int .i64 a0_2) := (bkC BK225.out 2).trans rfl; have hcz21_3 : wc.cell? ⟨gb225, 3, none⟩ = some (.bool false) := (bkC BK225.out 3).trans rfl; have hfz21_0 := bkF BK225.out 0; have hfz21_1 := bkF BK225.out 1; have hfz21_2 := bkF BK225.out 2; have hfz21_3 := bkF BK225.out 3; go_wp2
       go_meet
       case rel => exact ⟨_, ((-1)), (by first | rfl | (simp; done) | (simp [*]; done)), H', ⟨by have := HJ5.out; first | omega | exact Nat.le_refl _⟩, ⟨by (with_reducible repeat (first | refine bkN ?_ _ | refine bkD ?_ | refine bkA ?_ _)); exact BK225.out⟩, ⟨by (with_reducible repeat (first | refine bkN ?_ _ | refine bkD ?_ | refine bkA ?_ _)); exact BK226.out⟩, ⟨by repeat (first | (with_reducible first | exact HB.out | apply bwA | apply pwN | apply bw1 | refine bwS ?_ GE225.out | refine bwS ?_ GE226.out) | exact HB.out)⟩⟩
     ·replace c14 := Bool.eq_false_iff.mpr c14
      subst c14; have H1 : (impl_Fact_compare.j1 kj5 0 a0_0 a0_1 a0_2 a0_3 a1_0 a1_1 a1_2 false) = some r := by rw [if_neg (show ¬ (false = true) by decide)] at H; exact H
      clear H; have H := H1; clear H1; have H' := Zz.mk H; clear H; have hnb22 := NB226_225.out; have hnc22 := NB225_226.out; have hcz23_0 : wc.cell? ⟨gb226, 0, none⟩ = some (.int .i64 a1_0) := (bkC BK226.out 0).trans rfl; have hcz23_1 : wc.cell? ⟨gb226, 1, none⟩ = some (.int .i64 a1_1) := (bkC BK226.out 1).trans rfl; have hcz23_2 : wc.cell? ⟨gb226, 2, none⟩ = some (.int .i64 a1_2) := (bkC BK226.out 2).trans rfl; have hcz23_3 : wc.cell? ⟨gb226, 3, none⟩ = some (.bool false) := (bkC BK226.out 3).trans rfl; have hfz23_0 := bkF BK226.out 0; have hfz23_1 := bkF BK226.out 1; have hfz23_2 := bkF BK226.out 2; have hfz23_3 := bkF BK226.out 3; go_wp2
      go_meet
      case rel => exact ⟨_, (0), (by first | rfl | (simp; done) | (simp [*]; done)), H', ⟨by have := HJ5.out; first | omega | exact Nat.le_refl _⟩, ⟨by (with_reducible repeat (first | refine bkN ?_ _ | refine bkD ?_ | refine bkA ?_ _)); exact BK225.out⟩, ⟨by (with_reducible repeat (first | refine bkN ?_ _ | refine bkD ?_ | refine bkA ?_ _)); exact BK226.out⟩, ⟨by repeat (first | (with_reducible first | exact HB.out | apply bwA | apply pwN | apply bw1 | refine bwS ?_ GE225.out | refine bwS ?_ GE226.out) | exact HB.out)⟩⟩
 case rest =>
  clear HC3; try clear c1
  try clear c2
  try clear p2
  try clear c5
  try clear c7
  try clear c8
  try clear c11
  try clear c13
  try clear c14
  try clear c15
  try clear c16
  try clear c19
  try clear c22
  try clear hcz10_0
  try clear hcz10_1
  try clear hcz10_2
  try clear hcz10_3
  try clear hcz12_0
  try clear hcz12_1
  try clear hcz12_2
  try clear hcz12_3
  try clear hcz17_0
  try clear hcz17_1
  try clear hcz17_2
  try clear hcz17_3
  try clear hcz18_0
  try clear hcz18_1
  try clear hcz18_2
  try clear hcz18_3
  try clear hcz20_0
  try clear hcz20_1
  try clear hcz20_2
  try clear hcz20_3
  try clear hcz21_0
  try clear hcz21_1
  try clear hcz21_2
  try clear hcz21_3
  try clear hcz23_0
  try clear hcz23_1
  try clear hcz23_2
  try clear hcz23_3
  try clear hcz9_0
  try clear hcz9_1
  try clear hcz9_2
  try clear hcz9_3
  try clear hfz10_0
  try clear hfz10_1
  try clear hfz10_2
  try clear hfz10_3
  try clear hfz12_0
  try clear hfz12_1
  try clear hfz12_2
  try clear hfz12_3
  try clear hfz17_0
  try clear hfz17_1
  try clear hfz17_2
  try clear hfz17_3
  try clear hfz18_0
  try clear hfz18_1
  try clear hfz18_2
  try clear hfz18_3
  try clear hfz20_0
  try clear hfz20_1
  try clear hfz20_2
  try clear hfz20_3
  try clear hfz21_0
  try clear hfz21_1
  try clear hfz21_2
  try clear hfz21_3
  try clear hfz23_0
  try clear hfz23_1
  try clear hfz23_2
  try clear hfz23_3
  try clear hfz9_0
  try clear hfz9_1
  try clear hfz9_2
  try clear hfz9_3
  try clear p2
  obtain ⟨kq, x5_2, rfl, HA, HJ2, BK225, BK226, HB⟩ := hcut; cases kq with
  | zero => exact absurd HA.out (by simp [impl_Fact_compare.j1])
  | succ kj2 =>
   have H := HA.out; clear HA; simp only [impl_Fact_compare.j1] at H; replace H := Option.bind_eq_some_iff.mp H; obtain ⟨t227, A240, H⟩ := H; replace H : ((cmp_Compare_int.f a0_1 a1_1).bind fun t228 => ((cmp_Compare_int.f a0_2 a1_2).bind fun t229 => ((cmp_Or_int.f kj2 (([t227, t228, t229, x5_2] : List Int))).bind fun t233 => (some t233)))) = some r := H; have A24 := Zz.mk A240; clear A240; replace H := Option.bind_eq_some_iff.mp H; obtain ⟨t228, A250, H⟩ := H; replace H : ((cmp_Compare_int.f a0_2 a1_2).bind fun t229 => ((cmp_Or_int.f kj2 (([t227, t228, t229, x5_2] : List Int))).bind fun t233 => (some t233))) = some r := H; have A25 := Zz.mk A250; clear A250; replace H := Option.bind_eq_some_iff.mp H; obtain ⟨t229, A260, H⟩ := H; replace H : ((cmp_Or_int.f kj2 (([t227, t228, t229, x5_2] : List Int))).bind fun t233 => (some t233)) = some r := H; have A26 := Zz.mk A260; clear A260; obtain ⟨y230, hy230⟩ : ∃ y_ : List Int, y_ = (([t227, t228, t229, x5_2] : List Int)) := ⟨_, rfl⟩
   replace H : ((cmp_Or_int.f kj2 y230).bind fun t233 => (some t233)) = some r := by first | (rw [hy230]; with_reducible exact H) | (replace H := (Option.bind_some _ _).symm.trans H; first | (rw [hy230]; with_reducible exact H) | with_reducible exact H) | with_reducible exact H | (rw [hy230]; exact H) | exact H
   have Ny230 := Zz.mk hy230; clear hy230; replace H := Option.bind_eq_some_iff.mp H; obtain ⟨t233, A270, H⟩ := H; replace H : (some t233) = some r := H; have A27 := Zz.mk A270; clear A270; obtain rfl := Option.some.inj H; try go_wp2
   have n0_ := Zz.mk (bkD BK225.out); have n1_ := Zz.mk (bkD BK226.out); have n2_ := Zz.mk (bw1 HB.out); clear BK225; clear BK226; clear HB; have BK225 := n0_; have BK226 := n1_; have HB := n2_; clear n0_ n1_ n2_; refine start_ (n := 19) (S := fun w' => w'.cell? ⟨gb225, 0, none⟩ = some (.int .i64 a0_0) ∧ w'.cell? ⟨gb225, 1, none⟩ = some (.int .i64 a0_1) ∧ w'.cell? ⟨gb225, 2, none⟩ = some (.int .i64 a0_2) ∧ w'.cell? ⟨gb225, 3, none⟩ = some (.bool a0_3) ∧ w'.cell? ⟨gb226, 0, none⟩ = some (.int .i64 a1_0) ∧ w'.cell? ⟨gb226, 1, none⟩ = some (.int .i64 a1_1) ∧ w'.cell? ⟨gb226, 2, none⟩ = some (.int .i64 a1_2) ∧ w'.cell? ⟨gb226, 3, none⟩ = some (.bool a1_3)) (ds := []) #[false, false, false, false, false, false, false, false, false, false, false, false, false, false, false, false, false, false, false] (by kernel_rfl) rfl rfl ⟨(bkC BK225.out 0).trans rfl, (bkC BK225.out 1).trans rfl, (bkC BK225.out 2).trans rfl, (bkC BK225.out 3).trans rfl, (bkC BK226.out 0).trans rfl, (bkC BK226.out 1).trans rfl, (bkC BK226.out 2).trans rfl, (bkC BK226.out 3).trans rfl⟩ (fun hH => ?_); refine with_tabW impl_Fact_compare.tab6 impl_Fact_compare.bits6 (fun HT_ HW_ => ?_); generalize wc.drew = w28 at BK225 BK226 HB hH ⊢; refine pure_ (i := 0) (N := some 22) (v := ?_) (a' := ?_) #[true, false, false, false, false, false, false, false, false, false, false, false, false, false, false, false, false, false, false] rfl rfl (any_of HT_.out (by kernel_rfl)) (fun _ _ _ h => h) (Or.inl ⟨by rfl, ?_⟩) ?_ ?_; rotate_left
   ·intro w'; go_simp; with_reducible rfl
   rotate_left
   ·simp only [pS, i64_w, i32_w]; rfl
   refine pure_ (i := 2) (N := some 24) (v := ?_) (a' := ?_) #[true, false, true, false, false, false, false, false, false, false, false, false, false, false, false, false, false, false, false] rfl rfl (any_of HT_.out (by kernel_rfl)) (fun _ _ _ h => h) (Or.inl ⟨by rfl, ?_⟩) ?_ ?_; rotate_left
   ·intro w'; go_simp; with_reducible rfl
   rotate_left
   ·simp only [pS, i64_w, i32_w]; rfl
   refine pure_ (i := 5) (N := some 27) (v := ?_) (a' := ?_) #[true, false, true, false, false, true, false, false, false, false, false, false, false, false, false, false, false, false, false] rfl rfl (any_of HT_.out (by kernel_rfl)) (fun _ _ _ h => h) (Or.inl ⟨by rfl, ?_⟩) ?_ ?_; rotate_left
   ·intro w'; go_simp; with_reducible rfl
   rotate_left
   ·simp only [pS, i64_w, i32_w]; rfl
   refine pure_ (i := 7) (N := some 29) (v := ?_) (a' := ?_) #[true, false, true, false, false, true, false, true, false, false, false, false, false, false, false, false, false, false, false] rfl rfl (any_of HT_.out (by kernel_rfl)) (fun _ _ _ h => h) (Or.inl ⟨by rfl, ?_⟩) ?_ ?_; rotate_left
   ·intro w'; go_simp; with_reducible rfl
   rotate_left
   ·simp only [pS, i64_w, i32_w]; rfl
   refine pure_ (i := 10) (N := some 32) (v := ?_) (a' := ?_) #[true, false, true, false, false, true, false, true, false, false, true, false, false, false, false, false, false, false, false] rfl rfl (any_of HT_.out (by kernel_rfl)) (fun _ _ _ h => h) (Or.inl ⟨by rfl, ?_⟩) ?_ ?_; rotate_left
   ·intro w'; go_simp; with_reducible rfl
   rotate_left
   ·simp only [pS, i64_w, i32_w]; rfl
   refine pure_ (i := 12) (N := some 34) (v := ?_) (a' := ?_) #[true, false, true, false, false, true, false, true, false, false, true, false, true, false, false, false, false, false, false] rfl rfl (any_of HT_.out (by kernel_rfl)) (fun _ _ _ h => h) (Or.inl ⟨by rfl, ?_⟩) ?_ ?_; rotate_left
   ·intro w'; go_simp; with_reducible rfl
   rotate_left
   ·simp only [pS, i64_w, i32_w]; rfl
   refine pure_ (i := 15) (N := some 37) (v := ?_) (a' := ?_) #[true, false, true, false, false, true, false, true, false, false, true, false, true, false, false, true, false, false, false] rfl rfl (any_of HT_.out (by kernel_rfl)) (fun _ _ _ h => h) (Or.inl ⟨by rfl, ?_⟩) ?_ ?_; rotate_left
   ·intro w'; go_simp; with_reducible rfl
   rotate_left
   ·simp only [pS, i64_w, i32_w]; rfl
   refine take_ (i := 1) (N := some 23) (v := ?_) (a' := ?_) #[true, true, true, false, false, true, false, true, false, false, true, false, true, false, false, true, false, false, false] rfl rfl (take_ofW HT_.out HW_.out (by kernel_rfl)) (fun _ _ _ h => h) (Or.inl ⟨by rfl, ?_⟩) hH ?_ ?_; rotate_left
   ·rintro w' ⟨s0, s1, s2, s3, s4, s5, s6, s7⟩; go_simp; with_reducible rfl
   rotate_left
   ·simp only [pS, i64_w, i32_w]; rfl
   refine take_ (i := 3) (N := some 25) (v := ?_) (a' := ?_) #[true, true, true, true, false, true, false, true, false, false, true, false, true, false, false, true, false, false, false] rfl rfl (take_ofW HT_.out HW_.out (by kernel_rfl)) (fun _ _ _ h => h) (Or.inl ⟨by rfl, ?_⟩) hH ?_ ?_; rotate_left
   ·rintro w' ⟨s0, s1, s2, s3, s4, s5, s6, s7⟩; go_simp; with_reducible rfl
   rotate_left
   ·simp only [pS, i64_w, i32_w]; rfl
   refine take_ (i := 6) (N := some 28) (v := ?_) (a' := ?_) #[true, true, true, true, false, true, true, true, false, false, true, false, true, false, false, true, false, false, false] rfl rfl (take_ofW HT_.out HW_.out (by kernel_rfl)) (fun _ _ _ h => h) (Or.inl ⟨by rfl, ?_⟩) hH ?_ ?_; rotate_left
   ·rintro w' ⟨s0, s1, s2, s3, s4, s5, s6, s7⟩; go_simp; with_reducible rfl
   rotate_left
   ·simp only [pS, i64_w, i32_w]; rfl
   refine take_ (i := 8) (N := some 30) (v := ?_) (a' := ?_) #[true, true, true, true, false, true, true, true, true, false, true, false, true, false, false, true, false, false, false] rfl rfl (take_ofW HT_.out HW_.out (by kernel_rfl)) (fun _ _ _ h => h) (Or.inl ⟨by rfl, ?_⟩) hH ?_ ?_; rotate_left
   ·rintro w' ⟨s0, s1, s2, s3, s4, s5, s6, s7⟩; go_simp; with_reducible rfl
   rotate_left
   ·simp only [pS, i64_w, i32_w]; rfl
   refine take_ (i := 11) (N := some 33) (v := ?_) (a' := ?_) #[true, true, true, true, false, true, true, true, true, false, true, true, true, false, false, true, false, false, false] rfl rfl (take_ofW HT_.out HW_.out (by kernel_rfl)) (fun _ _ _ h => h) (Or.inl ⟨by rfl, ?_⟩) hH ?_ ?_; rotate_left
   ·rintro w' ⟨s0, s1, s2, s3, s4, s5, s6, s7⟩; go_simp; with_reducible rfl
   rotate_left
   ·simp only [pS, i64_w, i32_w]; rfl
   refine take_ (i := 13) (N := some 35) (v := ?_) (a' := ?_) #[true, true, true, true, false, true, true, true, true, false, true, true, true, true, false, true, false, false, false] rfl rfl (take_ofW HT_.out HW_.out (by kernel_rfl)) (fun _ _ _ h => h) (Or.inl ⟨by rfl, ?_⟩) hH ?_ ?_; rotate_left
   ·rintro w' ⟨s0, s1, s2, s3, s4, s5, s6, s7⟩; go_simp; with_reducible rfl
   rotate_left
   ·simp only [pS, i64_w, i32_w]; rfl
   refine one_ (i := 4) (N := some 26) #[true, true, true, true, true, true, true, true, true, false, true, true, true, true, false, true, false, false, false] rfl rfl (one_of HT_.out (by kernel_rfl)) (by decide) (fun K hK => ?_); refine goes_ Try.func70 (by kernel_rfl) rfl #[.int .i64 a0_0, .int .i64 a1_0] (by rfl) rfl rfl (by (try simp only [List.map_toArray, List.map_cons, List.map_nil]); first | done | rfl | (simp only [List.length_drop, List.length_take]; rfl)) ?_; with_reducible refine (cmp_Compare_int.calls a0_0 a1_0 t227 _ A24.out).mono ?_
   rintro e w' ⟨rfl, ⟨nd, rfl⟩⟩; refine ⟨_, rfl, ?_⟩; (try clear A24)
   refine hK.out _ _ ⟨(bkC BK225.out 0).trans rfl, (bkC BK225.out 1).trans rfl, (bkC BK225.out 2).trans rfl, (bkC BK225.out 3).trans rfl, (bkC BK226.out 0).trans rfl, (bkC BK226.out 1).trans rfl, (bkC BK226.out 2).trans rfl, (bkC BK226.out 3).trans rfl⟩ (fun hH => ?_); clear hK K; refine norm_ (a' := ?_) ?_ ?_; rotate_left
   ·show Act.put _ (some 26) _ = _
    simp only [pS, i64_w, i32_w]; rfl
   refine one_ (i := 9) (N := some 31) #[true, true, true, true, true, true, true, true, true, true, true, true, true, true, false, true, false, false, false] rfl rfl (one_of HT_.out (by kernel_rfl)) (by decide) (fun K hK => ?_); refine goes_ Try.func70 (by kernel_rfl) rfl #[.int .i64 a0_1, .int .i64 a1_1] (by rfl) rfl rfl (by (try simp only [List.map_toArray, List.map_cons, List.map_nil]); first | done | rfl | (simp only [List.length_drop, List.length_take]; rfl)) ?_; with_reducible refine (cmp_Compare_int.calls a0_1 a1_1 t228 _ A25.out).mono ?_
   rintro e w' ⟨rfl, ⟨nd, rfl⟩⟩; refine ⟨_, rfl, ?_⟩; (try clear A25)
   refine hK.out _ _ ⟨(bkC BK225.out 0).trans rfl, (bkC BK225.out 1).trans rfl, (bkC BK225.out 2).trans rfl, (bkC BK225.out 3).trans rfl, (bkC BK226.out 0).trans rfl, (bkC BK226.out 1).trans rfl, (bkC BK226.out 2).trans rfl, (bkC BK226.out 3).trans rfl⟩ (fun hH => ?_); clear hK K; refine norm_ (a' := ?_) ?_ ?_; rotate_left
   ·show Act.put _ (some 31) _ = _
    simp only [pS, i64_w, i32_w]; rfl
   refine one_ (i := 14) (N := some 36) #[true, true, true, true, true, true, true, true, true, true, true, true, true, true, true, true, false, false, false] rfl rfl (one_of HT_.out (by kernel_rfl)) (by decide) (fun K hK => ?_); refine goes_ Try.func70 (by kernel_rfl) rfl #[.int .i64 a0_2, .int .i64 a1_2] (by rfl) rfl rfl (by (try simp only [List.map_toArray, List.map_cons, List.map_nil]); first | done | rfl | (simp only [List.length_drop, List.length_take]; rfl)) ?_; with_reducible refine (cmp_Compare_int.calls a0_2 a1_2 t229 _ A26.out).mono ?_
   rintro e w' ⟨rfl, ⟨nd, rfl⟩⟩; refine ⟨_, rfl, ?_⟩; (try clear A26)
   refine hK.out _ _ ⟨(bkC BK225.out 0).trans rfl, (bkC BK225.out 1).trans rfl, (bkC BK225.out 2).trans rfl, (bkC BK225.out 3).trans rfl, (bkC BK226.out 0).trans rfl, (bkC BK226.out 1).trans rfl, (bkC BK226.out 2).trans rfl, (bkC BK226.out 3).trans rfl⟩ (fun hH => ?_); clear hK K; refine norm_ (a' := ?_) ?_ ?_; rotate_left
   ·show Act.put _ (some 36) _ = _
    simp only [pS, i64_w, i32_w]; rfl
   refine one_ (i := 16) (N := some 38) #[true, true, true, true, true, true, true, true, true, true, true, true, true, true, true, true, true, false, false] rfl rfl (one_of HT_.out (by kernel_rfl)) (by decide) (fun K hK => ?_); refine Kd.Rls (Kd.int .i64) _ 3 ?hg (N := 38) ?hd (xs := ([t227, t228, t229, x5_2] : List Int)) (inner := [.int .i64 t227, .int .i64 t228, .int .i64 t229, .int .i64 x5_2]) (ok := fun _ => True) (okp := fun _ => True) ?hr ?hp (fun _ hk => hk) trivial (Below.refl _ _) (Nat.le_refl _) (by simp) ?_; (case hd => rfl); (case hg => rfl); (case hr => first | (go_simp; done) | (go_simp; rfl)); (case hp => exact (Reps.one (show Kd.M (Kd.int .i64) _ _ _ t227 [.int .i64 t227] from rfl) (Reps.one (show Kd.M (Kd.int .i64) _ _ _ t228 [.int .i64 t228] from rfl) (Reps.one (show Kd.M (Kd.int .i64) _ _ _ t229 [.int .i64 t229] from rfl) (Reps.one (show Kd.M (Kd.int .i64) _ _ _ x5_2 [.int .i64 x5_2] from rfl) (Reps.none _ _)))))); intro v231 w29 ho30 hb hg_ hnew_; clear hg_ hnew_; (first | rw [← Ny230.out] at ho30 | (simp only [Int.reduceToNat] at ho30; rw [← Ny230.out] at ho30))
   have n0_ := Zz.mk (Kd.R_lower ho30 (bwZ (by repeat (first | (with_reducible first | exact HB.out | apply bwA | apply pwN | apply bw1 | refine bwS ?_ GE225.out | refine bwS ?_ GE226.out) | exact HB.out)))); have n1_ := Zz.mk (bkB (g := gb225) (o := .cells #[.int .i64 a0_0, .int .i64 a0_1, .int .i64 a0_2, .bool a0_3] 30 (0, 0)) (by (with_reducible repeat (first | refine bkN ?_ _ | refine bkD ?_ | refine bkA ?_ _)); exact BK225.out) hb); have n2_ := Zz.mk (bkB (g := gb226) (o := .cells #[.int .i64 a1_0, .int .i64 a1_1, .int .i64 a1_2, .bool a1_3] 30 (0, 0)) (by (with_reducible repeat (first | refine bkN ?_ _ | refine bkD ?_ | refine bkA ?_ _)); exact BK226.out) hb); have n3_ := Zz.mk (bwP (by repeat (first | (with_reducible first | exact HB.out | apply bwA | apply pwN | apply bw1 | refine bwS ?_ GE225.out | refine bwS ?_ GE226.out) | exact HB.out)) hb); clear BK225; clear BK226; clear HB; have HO232 := n0_; have BK225 := n1_; have BK226 := n2_; have HB := n3_; clear n0_ n1_ n2_ n3_; clear hb ho30; obtain ⟨Ao31, co31, eo31⟩ := Kd.R_slice HO232.out; (first | subst eo31 | (injection eo31 with f1_ f2_ f3_; have f4_ := f1_.symm; have f5_ := f3_.symm; clear f1_ f2_ f3_; subst f4_; subst f5_))
   refine hK.out _ _ ⟨(bkC BK225.out 0).trans rfl, (bkC BK225.out 1).trans rfl, (bkC BK225.out 2).trans rfl, (bkC BK225.out 3).trans rfl, (bkC BK226.out 0).trans rfl, (bkC BK226.out 1).trans rfl, (bkC BK226.out 2).trans rfl, (bkC BK226.out 3).trans rfl⟩ (fun hH => ?_); clear hK K; refine norm_ (a' := ?_) ?_ ?_; rotate_left
   ·show Act.put _ (some 38) _ = _
    simp only [pS, i64_w, i32_w]; rfl
   refine one_ (i := 17) (N := some 39) #[true, true, true, true, true, true, true, true, true, true, true, true, true, true, true, true, true, true, false] rfl rfl (one_of HT_.out (by kernel_rfl)) (by decide) (fun K hK => ?_); refine goes_ Try.func73 (by kernel_rfl) rfl #[.slice Ao31 y230.length co31] (by rfl) rfl rfl (by (try simp only [List.map_toArray, List.map_cons, List.map_nil]); first | done | rfl | (simp only [List.length_drop, List.length_take]; rfl)) ?_; with_reducible refine (cmp_Or_int.calls kj2 _ _ y230 t233 _ ?side1 ?side2 A27.out).mono ?_
   (case side1 => repeat (first | exact (Kd.R_reads' HO232.out).2.2 | (with_reducible refine Kd.CA ?_ _) | (with_reducible refine Kd.CN ?_ _) | (with_reducible refine Kd.CD ?_)))
   (case side2 => exact (Kd.R_reads' HO232.out).2.1)
   rintro e w' ⟨rfl, ⟨nd, rfl⟩⟩; refine ⟨_, rfl, ?_⟩; (try clear A27)
   refine hK.out _ _ ⟨(bkC BK225.out 0).trans rfl, (bkC BK225.out 1).trans rfl, (bkC BK225.out 2).trans rfl, (bkC BK225.out 3).trans rfl, (bkC BK226.out 0).trans rfl, (bkC BK226.out 1).trans rfl, (bkC BK226.out 2).trans rfl, (bkC BK226.out 3).trans rfl⟩ (fun hH => ?_); clear hK K; refine norm_ (a' := ?_) ?_ ?_; rotate_left
   ·show Act.put _ (some 39) _ = _
    simp only [pS, i64_w, i32_w]; rfl
   refine pure_ (i := 18) (N := some 4) (v := ?_) (a' := ?_) #[true, true, true, true, true, true, true, true, true, true, true, true, true, true, true, true, true, true, true] rfl rfl (any_of HT_.out (by kernel_rfl)) (fun _ _ _ h => h) (Or.inl ⟨by rfl, ?_⟩) ?_ ?_; rotate_left
   ·intro w'; go_simp; with_reducible rfl
   rotate_left
   ·simp only [pS, i64_w, i32_w]; rfl
   refine done_ (done_of HT_.out (by kernel_rfl)) ?_; try go_wp2
   go_ret
   exact ⟨by first | rfl | (simp [eN, eS] <;> rfl) | (simp [*, eN, eS] <;> rfl), by repeat (first | (with_reducible first | exact HB.out | apply bwA | apply pwN | apply bw1 | refine bwS ?_ GE225.out | refine bwS ?_ GE226.out) | exact HB.out)⟩

end Go.Proofs.Ytjaihhgkcdnhnaa.PFnCastNew
