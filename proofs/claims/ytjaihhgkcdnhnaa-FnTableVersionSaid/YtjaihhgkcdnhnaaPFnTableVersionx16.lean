/- Written by a program of this session (a turned copy of a tool of the kit): functions as plain functions, and that each call does what they tell. Conditions: none. -/
import Derived.Test.YtjaihhgkcdnhnaaPFnTableVersionx0
import Derived.Test.YtjaihhgkcdnhnaaPFnTableVersionx2
import Derived.Test.YtjaihhgkcdnhnaaPFnTableVersionx3
import Derived.Test.YtjaihhgkcdnhnaaPFnTableVersionx6
import Derived.Test.YtjaihhgkcdnhnaaPFnTableVersionx11
import Derived.Test.YtjaihhgkcdnhnaaPFnTableVersionx15
namespace Go.Proofs.Ytjaihhgkcdnhnaa.PFnTableVersion
open Go.RowKit Go.Proofs.YtjaihhgkcdnhnaaW.PrintWords Go.Proofs.YtjaihhgkcdnhnaaW.PrintLast Go.Proofs.YtjaihhgkcdnhnaaW.PrintMore
attribute [local go_sem] max2_int min2_int max_two min_two max_three min_three max_four min_four
set_option linter.unusedVariables false
set_option linter.unusedSimpArgs false

/-! ### spec_TableVersion: function 23 -/
def spec_TableVersion.l0 : Nat → List (S30) → Int → Int → Option (Int)
 | 0, _, _, _ => none
 | k + 1, x0, x3, x4 => if x4 < (x0.length : Int) then (if 0 ≤ x4 then (if (rd_T30 x0 x4).f3 = true then (spec_TableVersion.l0 k x0 (wrap64 ((wrap64 ((wrap64 ((wrap64 (x3 + 1)) + (wrap64 (((rd_T30 x0 x4).f1) * 16)))) + (wrap64 (((rd_T30 x0 x4).f2) * 2)))) + 1)) (wrap64 (x4 + 1))) else (spec_TableVersion.l0 k x0 (wrap64 ((wrap64 ((wrap64 (x3 + 1)) + (wrap64 (((rd_T30 x0 x4).f1) * 16)))) + (wrap64 (((rd_T30 x0 x4).f2) * 2)))) (wrap64 (x4 + 1)))) else (none)) else (some x3)
def spec_TableVersion.f (k : Nat) (l0 : List (S30)) : Option (Int) := (spec_TableOk.f k l0).bind fun t455 => (if t455 = true then (spec_TableVersion.l0 k l0 0 0) else (some 0))
theorem spec_TableVersion.mono_l : ∀ k, (∀ y0 y1 y2, LeO (spec_TableVersion.l0 k y0 y1 y2) (spec_TableVersion.l0 (k + 1) y0 y1 y2))
 | 0 => fun _ _ _ r h => by simp [spec_TableVersion.l0] at h
 | k + 1 => by
  have ih0 := spec_TableVersion.mono_l k
  ·intro y0 y1 y2
   unfold spec_TableVersion.l0
   repeat' first
   | (with_reducible exact ih0 _ _ _)
   | (with_reducible exact spec_TableOk.mono _ _)
   | (with_reducible exact LeO.refl _)
   | (with_reducible exact LeO.none _)
   | (with_reducible refine LeO.ite ?_ ?_)
   | (with_reducible refine LeO.bind ?_ (fun _ => ?_))
   | exact ih0 _ _ _
   | exact spec_TableOk.mono _ _
   | exact LeO.none _
   | refine LeO.ite ?_ ?_
   | refine LeO.bind ?_ (fun _ => ?_)
theorem spec_TableVersion.mono : ∀ a0 k, LeO (spec_TableVersion.f k a0) (spec_TableVersion.f (k + 1) a0) := by
 intro a0 k
 have ih0 := spec_TableVersion.mono_l k
 unfold spec_TableVersion.f
 repeat' first
   | (with_reducible exact ih0 _ _ _)
   | (with_reducible exact spec_TableOk.mono _ _)
   | (with_reducible exact LeO.refl _)
   | (with_reducible exact LeO.none _)
   | (with_reducible refine LeO.ite ?_ ?_)
   | (with_reducible refine LeO.bind ?_ (fun _ => ?_))
   | exact ih0 _ _ _
   | exact spec_TableOk.mono _ _
   | exact LeO.none _
   | refine LeO.ite ?_ ?_
   | refine LeO.bind ?_ (fun _ => ?_)
set_option maxHeartbeats 8000000 in
set_option maxRecDepth 100000 in
theorem spec_TableVersion.calls (k : Nat) (A0 : Option Addr) (c0 : Nat) (l0 : List (S30)) (r : Int) (w : World) (hr0 : Kd.C k30 w A0 l0.length l0) (hc0 : l0.length ≤ c0) (h : spec_TableVersion.f k l0 = some r) :
  Calls Try.prog 23 #[.slice A0 l0.length c0] w fun e w' => e = .returned (.int .i64 r) ∧ Below w.heap.size w w' := by
 have HR0 := Zz.mk hr0
 have HC0 := Zz.mk hc0
 clear hr0 hc0
 have HB := Zz.mk (Below.refl w.heap.size w)
 have H : ((spec_TableOk.f k l0).bind fun t455 => (if t455 = true then (spec_TableVersion.l0 k l0 0 0) else (some 0))) = some r := h
 clear h
 replace H := Option.bind_eq_some_iff.mp H
 obtain ⟨t455, A20, H⟩ := H
 replace H : (if t455 = true then (spec_TableVersion.l0 k l0 0 0) else (some 0)) = some r := H
 have A2 := Zz.mk A20
 clear A20
 by_cases c3 : t455 = true
 ·subst c3
  have H1 : (spec_TableVersion.l0 k l0 0 0) = some r := by rw [if_pos rfl] at H; exact H
  clear H
  have H := H1
  clear H1
  have H' := Zz.mk H
  clear H
  go_enter Try.func23, Try.ntmps23
  go_wp2_with (first | (go_at_call 24; (with_reducible refine (spec_TableOk.calls k _ _ l0 true _ ?side1 ?side2 A2.out).mono ?_); (case side1 => repeat (first | exact HR0.out | (with_reducible refine Kd.C_alloc ?_ _) | (with_reducible refine Kd.C_drewN ?_ _) | (with_reducible refine Kd.C_drew ?_))); (case side2 => exact HC0.out); rintro e w4 ⟨rfl, hb⟩; have n0_ := Zz.mk (bwP (by repeat (first | (with_reducible first | exact HB.out | apply bwA | apply pwN | apply bw1) | exact HB.out)) hb); clear HB; have HB := n0_; clear n0_; (try clear hb); (try clear hb2); (try clear hk); (try clear hi); (try clear A2)))
  repeat (go_quiet (first | (go_at_call 24; (with_reducible refine (spec_TableOk.calls k _ _ l0 true _ ?side1 ?side2 A2.out).mono ?_); (case side1 => repeat (first | exact HR0.out | (with_reducible refine Kd.C_alloc ?_ _) | (with_reducible refine Kd.C_drewN ?_ _) | (with_reducible refine Kd.C_drew ?_))); (case side2 => exact HC0.out); rintro e w4 ⟨rfl, hb⟩; have n0_ := Zz.mk (bwP (by repeat (first | (with_reducible first | exact HB.out | apply bwA | apply pwN | apply bw1) | exact HB.out)) hb); clear HB; have HB := n0_; clear n0_; (try clear hb); (try clear hb2); (try clear hk); (try clear hi); (try clear A2))); try go_wp2_with (first | (go_at_call 24; (with_reducible refine (spec_TableOk.calls k _ _ l0 true _ ?side1 ?side2 A2.out).mono ?_); (case side1 => repeat (first | exact HR0.out | (with_reducible refine Kd.C_alloc ?_ _) | (with_reducible refine Kd.C_drewN ?_ _) | (with_reducible refine Kd.C_drew ?_))); (case side2 => exact HC0.out); rintro e w4 ⟨rfl, hb⟩; have n0_ := Zz.mk (bwP (by repeat (first | (with_reducible first | exact HB.out | apply bwA | apply pwN | apply bw1) | exact HB.out)) hb); clear HB; have HB := n0_; clear n0_; (try clear hb); (try clear hb2); (try clear hk); (try clear hi); (try clear A2))))
  go_loopg [3, 4] k (fun kq v3 v4 w' => ∃ (x3_1 : Int) (x4_1 : Int), v3 = .int .i64 x3_1 ∧ v4 = .int .i64 x4_1 ∧ Zz (spec_TableVersion.l0 kq l0 x3_1 x4_1 = some r) ∧ Zz (kq ≤ k) ∧ Zz (Below w.heap.size w w'))
  case atStart => exact ⟨(0), (0), (by first | rfl | (simp; done) | (simp [*]; done)), (by first | rfl | (simp; done) | (simp [*]; done)), H', ⟨Nat.le_refl _⟩, ⟨by repeat (first | (with_reducible first | exact HB.out | apply bwA | apply pwN | apply bw1) | exact HB.out)⟩⟩
  case round =>
   clear H'
   try clear c2
   try clear p2
   try clear c3
   obtain ⟨x3_1, x4_1, rfl, rfl, HA, HK1, HB⟩ := hrel
   cases gk with
   | zero => exact absurd HA.out (by simp [spec_TableVersion.l0])
   | succ k1 =>
    have H := HA.out
    clear HA
    simp only [spec_TableVersion.l0] at H
    by_cases c5 : x4_1 < (l0.length : Int)
    ·rw [if_pos c5] at H
     have c5b0 : decide (x4_1 < (l0.length : Int)) = true := decide_eq_true c5
     clear c5
     by_cases c6 : 0 ≤ x4_1
     ·rw [if_pos c6] at H
      have c6b0 : decide (0 ≤ x4_1) = true := decide_eq_true c6
      clear c6
      obtain ⟨bq7, hbq7⟩ : ∃ b_ : Bool, b_ = ((rd_T30 l0 x4_1).f3) := ⟨_, rfl⟩
      replace H : (if bq7 = true then (spec_TableVersion.l0 k1 l0 (wrap64 ((wrap64 ((wrap64 ((wrap64 (x3_1 + 1)) + (wrap64 (((rd_T30 l0 x4_1).f1) * 16)))) + (wrap64 (((rd_T30 l0 x4_1).f2) * 2)))) + 1)) (wrap64 (x4_1 + 1))) else (spec_TableVersion.l0 k1 l0 (wrap64 ((wrap64 ((wrap64 (x3_1 + 1)) + (wrap64 (((rd_T30 l0 x4_1).f1) * 16)))) + (wrap64 (((rd_T30 l0 x4_1).f2) * 2)))) (wrap64 (x4_1 + 1)))) = some r := by rw [← hbq7] at H; exact H
      have Nbq7 := Zz.mk hbq7
      clear hbq7
      by_cases c8 : bq7 = true
      ·subst c8
       have H1 : (spec_TableVersion.l0 k1 l0 (wrap64 ((wrap64 ((wrap64 ((wrap64 (x3_1 + 1)) + (wrap64 (((rd_T30 l0 x4_1).f1) * 16)))) + (wrap64 (((rd_T30 l0 x4_1).f2) * 2)))) + 1)) (wrap64 (x4_1 + 1))) = some r := by rw [if_pos rfl] at H; exact H
       clear H
       have H := H1
       clear H1
       have H' := Zz.mk H
       clear H
       have p456 : 0 ≤ (x4_1 : Int) := of_decide_eq_true (by first | (with_reducible assumption) | assumption)
       have q456 : x4_1 < (l0.length : Int) := of_decide_eq_true (by first | (with_reducible assumption) | assumption)
       obtain ⟨ad456, e456, hx456_0, hx456_1, hx456_2, hx456_3⟩ := at_T30 HR0.out x4_1 p456 q456
       (try rw [← Nbq7.out] at hx456_3)
       cases e456
       replace hx456_0 := (HB.out.cell (World.block_lt_of_cell? w _ hx456_0)).trans hx456_0
       replace hx456_1 := (HB.out.cell (World.block_lt_of_cell? w _ hx456_1)).trans hx456_1
       replace hx456_2 := (HB.out.cell (World.block_lt_of_cell? w _ hx456_2)).trans hx456_2
       replace hx456_3 := (HB.out.cell (World.block_lt_of_cell? w _ hx456_3)).trans hx456_3
       replace p456 := eq_true p456
       replace q456 := eq_true q456
       have p457 : 0 ≤ (x4_1 : Int) := of_decide_eq_true (by first | (with_reducible assumption) | assumption)
       have q457 : x4_1 < (l0.length : Int) := of_decide_eq_true (by first | (with_reducible assumption) | assumption)
       obtain ⟨ad457, e457, hx457_0, hx457_1, hx457_2, hx457_3⟩ := at_T30 HR0.out x4_1 p457 q457
       (try rw [← Nbq7.out] at hx457_3)
       obtain rfl : ad456 = ad457 := (by injection e457)
       replace hx457_0 := (HB.out.cell (World.block_lt_of_cell? w _ hx457_0)).trans hx457_0
       replace hx457_1 := (HB.out.cell (World.block_lt_of_cell? w _ hx457_1)).trans hx457_1
       replace hx457_2 := (HB.out.cell (World.block_lt_of_cell? w _ hx457_2)).trans hx457_2
       replace hx457_3 := (HB.out.cell (World.block_lt_of_cell? w _ hx457_3)).trans hx457_3
       replace p457 := eq_true p457
       replace q457 := eq_true q457
       have p458 : 0 ≤ (x4_1 : Int) := of_decide_eq_true (by first | (with_reducible assumption) | assumption)
       have q458 : x4_1 < (l0.length : Int) := of_decide_eq_true (by first | (with_reducible assumption) | assumption)
       obtain ⟨ad458, e458, hx458_0, hx458_1, hx458_2, hx458_3⟩ := at_T30 HR0.out x4_1 p458 q458
       (try rw [← Nbq7.out] at hx458_3)
       obtain rfl : ad456 = ad458 := (by injection e458)
       replace hx458_0 := (HB.out.cell (World.block_lt_of_cell? w _ hx458_0)).trans hx458_0
       replace hx458_1 := (HB.out.cell (World.block_lt_of_cell? w _ hx458_1)).trans hx458_1
       replace hx458_2 := (HB.out.cell (World.block_lt_of_cell? w _ hx458_2)).trans hx458_2
       replace hx458_3 := (HB.out.cell (World.block_lt_of_cell? w _ hx458_3)).trans hx458_3
       replace p458 := eq_true p458
       replace q458 := eq_true q458
       go_wp2
       repeat (go_quiet (fail); try go_wp2)
       go_roundg k1
       case measure => have := HK1.out; omega
       case rel => exact ⟨(wrap64 ((wrap64 ((wrap64 ((wrap64 (x3_1 + 1)) + (wrap64 (((rd_T30 l0 x4_1).f1) * 16)))) + (wrap64 (((rd_T30 l0 x4_1).f2) * 2)))) + 1)), (wrap64 (x4_1 + 1)), (by first | rfl | (simp; done) | (simp [*]; done)), (by first | rfl | (simp; done) | (simp [*]; done)), H', ⟨by have := HK1.out; omega⟩, ⟨by repeat (first | (with_reducible first | exact HB.out | apply bwA | apply pwN | apply bw1) | exact HB.out)⟩⟩
      ·replace c8 := Bool.eq_false_iff.mpr c8
       subst c8
       have H1 : (spec_TableVersion.l0 k1 l0 (wrap64 ((wrap64 ((wrap64 (x3_1 + 1)) + (wrap64 (((rd_T30 l0 x4_1).f1) * 16)))) + (wrap64 (((rd_T30 l0 x4_1).f2) * 2)))) (wrap64 (x4_1 + 1))) = some r := by rw [if_neg (show ¬ (false = true) by decide)] at H; exact H
       clear H
       have H := H1
       clear H1
       have H' := Zz.mk H
       clear H
       have p456 : 0 ≤ (x4_1 : Int) := of_decide_eq_true (by first | (with_reducible assumption) | assumption)
       have q456 : x4_1 < (l0.length : Int) := of_decide_eq_true (by first | (with_reducible assumption) | assumption)
       obtain ⟨ad456, e456, hx456_0, hx456_1, hx456_2, hx456_3⟩ := at_T30 HR0.out x4_1 p456 q456
       (try rw [← Nbq7.out] at hx456_3)
       cases e456
       replace hx456_0 := (HB.out.cell (World.block_lt_of_cell? w _ hx456_0)).trans hx456_0
       replace hx456_1 := (HB.out.cell (World.block_lt_of_cell? w _ hx456_1)).trans hx456_1
       replace hx456_2 := (HB.out.cell (World.block_lt_of_cell? w _ hx456_2)).trans hx456_2
       replace hx456_3 := (HB.out.cell (World.block_lt_of_cell? w _ hx456_3)).trans hx456_3
       replace p456 := eq_true p456
       replace q456 := eq_true q456
       have p457 : 0 ≤ (x4_1 : Int) := of_decide_eq_true (by first | (with_reducible assumption) | assumption)
       have q457 : x4_1 < (l0.length : Int) := of_decide_eq_true (by first | (with_reducible assumption) | assumption)
       obtain ⟨ad457, e457, hx457_0, hx457_1, hx457_2, hx457_3⟩ := at_T30 HR0.out x4_1 p457 q457
       (try rw [← Nbq7.out] at hx457_3)
       obtain rfl : ad456 = ad457 := (by injection e457)
       replace hx457_0 := (HB.out.cell (World.block_lt_of_cell? w _ hx457_0)).trans hx457_0
       replace hx457_1 := (HB.out.cell (World.block_lt_of_cell? w _ hx457_1)).trans hx457_1
       replace hx457_2 := (HB.out.cell (World.block_lt_of_cell? w _ hx457_2)).trans hx457_2
       replace hx457_3 := (HB.out.cell (World.block_lt_of_cell? w _ hx457_3)).trans hx457_3
       replace p457 := eq_true p457
       replace q457 := eq_true q457
       have p458 : 0 ≤ (x4_1 : Int) := of_decide_eq_true (by first | (with_reducible assumption) | assumption)
       have q458 : x4_1 < (l0.length : Int) := of_decide_eq_true (by first | (with_reducible assumption) | assumption)
       obtain ⟨ad458, e458, hx458_0, hx458_1, hx458_2, hx458_3⟩ := at_T30 HR0.out x4_1 p458 q458
       (try rw [← Nbq7.out] at hx458_3)
       obtain rfl : ad456 = ad458 := (by injection e458)
       replace hx458_0 := (HB.out.cell (World.block_lt_of_cell? w _ hx458_0)).trans hx458_0
       replace hx458_1 := (HB.out.cell (World.block_lt_of_cell? w _ hx458_1)).trans hx458_1
       replace hx458_2 := (HB.out.cell (World.block_lt_of_cell? w _ hx458_2)).trans hx458_2
       replace hx458_3 := (HB.out.cell (World.block_lt_of_cell? w _ hx458_3)).trans hx458_3
       replace p458 := eq_true p458
       replace q458 := eq_true q458
       go_wp2
       repeat (go_quiet (fail); try go_wp2)
       go_roundg k1
       case measure => have := HK1.out; omega
       case rel => exact ⟨(wrap64 ((wrap64 ((wrap64 (x3_1 + 1)) + (wrap64 (((rd_T30 l0 x4_1).f1) * 16)))) + (wrap64 (((rd_T30 l0 x4_1).f2) * 2)))), (wrap64 (x4_1 + 1)), (by first | rfl | (simp; done) | (simp [*]; done)), (by first | rfl | (simp; done) | (simp [*]; done)), H', ⟨by have := HK1.out; omega⟩, ⟨by repeat (first | (with_reducible first | exact HB.out | apply bwA | apply pwN | apply bw1) | exact HB.out)⟩⟩
     ·rw [if_neg c6] at H
      exact absurd H (by simp)
    ·rw [if_neg c5] at H
     have c5b0 : decide (x4_1 < (l0.length : Int)) = false := decide_eq_false c5
     clear c5
     obtain rfl := Option.some.inj H
     go_wp2
     repeat (go_quiet (fail); try go_wp2)
     go_ret
     exact ⟨by first | rfl | (simp [*, errW_none, errW_some] <;> rfl), by repeat (first | (with_reducible first | exact HB.out | apply bwA | apply pwN | apply bw1) | exact HB.out)⟩
 ·replace c3 := Bool.eq_false_iff.mpr c3
  subst c3
  have H1 : (some 0) = some r := by rw [if_neg (show ¬ (false = true) by decide)] at H; exact H
  clear H
  have H := H1
  clear H1
  obtain rfl := Option.some.inj H
  go_enter Try.func23, Try.ntmps23
  go_wp2_with (first | (go_at_call 24; (with_reducible refine (spec_TableOk.calls k _ _ l0 false _ ?side1 ?side2 A2.out).mono ?_); (case side1 => repeat (first | exact HR0.out | (with_reducible refine Kd.C_alloc ?_ _) | (with_reducible refine Kd.C_drewN ?_ _) | (with_reducible refine Kd.C_drew ?_))); (case side2 => exact HC0.out); rintro e w9 ⟨rfl, hb⟩; have n0_ := Zz.mk (bwP (by repeat (first | (with_reducible first | exact HB.out | apply bwA | apply pwN | apply bw1) | exact HB.out)) hb); clear HB; have HB := n0_; clear n0_; (try clear hb); (try clear hb2); (try clear hk); (try clear hi); (try clear A2)))
  repeat (go_quiet (first | (go_at_call 24; (with_reducible refine (spec_TableOk.calls k _ _ l0 false _ ?side1 ?side2 A2.out).mono ?_); (case side1 => repeat (first | exact HR0.out | (with_reducible refine Kd.C_alloc ?_ _) | (with_reducible refine Kd.C_drewN ?_ _) | (with_reducible refine Kd.C_drew ?_))); (case side2 => exact HC0.out); rintro e w9 ⟨rfl, hb⟩; have n0_ := Zz.mk (bwP (by repeat (first | (with_reducible first | exact HB.out | apply bwA | apply pwN | apply bw1) | exact HB.out)) hb); clear HB; have HB := n0_; clear n0_; (try clear hb); (try clear hb2); (try clear hk); (try clear hi); (try clear A2))); try go_wp2_with (first | (go_at_call 24; (with_reducible refine (spec_TableOk.calls k _ _ l0 false _ ?side1 ?side2 A2.out).mono ?_); (case side1 => repeat (first | exact HR0.out | (with_reducible refine Kd.C_alloc ?_ _) | (with_reducible refine Kd.C_drewN ?_ _) | (with_reducible refine Kd.C_drew ?_))); (case side2 => exact HC0.out); rintro e w9 ⟨rfl, hb⟩; have n0_ := Zz.mk (bwP (by repeat (first | (with_reducible first | exact HB.out | apply bwA | apply pwN | apply bw1) | exact HB.out)) hb); clear HB; have HB := n0_; clear n0_; (try clear hb); (try clear hb2); (try clear hk); (try clear hi); (try clear A2))))
  go_ret
  exact ⟨by first | rfl | (simp [*, errW_none, errW_some] <;> rfl), by repeat (first | (with_reducible first | exact HB.out | apply bwA | apply pwN | apply bw1) | exact HB.out)⟩

/-! ### laws_FnTableVersion: function 5 -/
def laws_FnTableVersion.j0 : Nat → List (S30) → Bool → Int → Int → Bool → Int → Int → Int → Bool → Option (Bool)
 | 0, _, _, _, _, _, _, _, _, _ => none
 | k + 1, x3, x6, x9, x10, x55, x467000, x467001, x467002, x467003 => if x55 = true then (some false) else ((spec_TableOk.f k x3).bind fun t480 => (if t480 = true then ((spec_FactOk.f x467000 x467001 x467002 x467003).bind fun t481 => (if t481 = true then (if x6 = true then (if x10 > x9 then (some true) else (some false)) else (some (x10 == x9))) else (some true))) else (some true)))
def laws_FnTableVersion.f (k : Nat) (l0 : List Int) : Option (Bool) := if (l0.length : Int) > 1048576 then (some true) else ((spec_DrawTablePut.f k l0).bind fun bt459 => ((impl_TablePut.f k bt459.1 bt459.2.1 bt459.2.2.1 bt459.2.2.2.1 bt459.2.2.2.2).bind fun bt467 => ((spec_TablePut.f k bt459.1 bt459.2.1 bt459.2.2.1 bt459.2.2.2.1 bt459.2.2.2.2).bind fun bt471 => ((impl_TableVersion.f k bt459.1).bind fun t475 => ((impl_TableVersion.f k bt467.1).bind fun t476 => (if (bt467.2 != bt471.2) = true then (laws_FnTableVersion.j0 k bt459.1 bt467.2 t475 t476 true bt459.2.1 bt459.2.2.1 bt459.2.2.2.1 bt459.2.2.2.2) else ((laws_lhFacts.f k bt467.1 bt471.1).bind fun t477 => (if t477 = true then ((spec_TableVersion.f k bt459.1).bind fun t478 => (if t475 = t478 then ((spec_TableVersion.f k bt471.1).bind fun t479 => (laws_FnTableVersion.j0 k bt459.1 bt467.2 t475 t476 (t476 != t479) bt459.2.1 bt459.2.2.1 bt459.2.2.2.1 bt459.2.2.2.2)) else (laws_FnTableVersion.j0 k bt459.1 bt467.2 t475 t476 true bt459.2.1 bt459.2.2.1 bt459.2.2.2.1 bt459.2.2.2.2))) else (laws_FnTableVersion.j0 k bt459.1 bt467.2 t475 t476 true bt459.2.1 bt459.2.2.1 bt459.2.2.2.1 bt459.2.2.2.2)))))))))
theorem laws_FnTableVersion.mono_l : ∀ k, (∀ y0 y1 y2 y3 y4 y5 y6 y7 y8, LeO (laws_FnTableVersion.j0 k y0 y1 y2 y3 y4 y5 y6 y7 y8) (laws_FnTableVersion.j0 (k + 1) y0 y1 y2 y3 y4 y5 y6 y7 y8))
 | 0 => fun _ _ _ _ _ _ _ _ _ r h => by simp [laws_FnTableVersion.j0] at h
 | k + 1 => by
  have ih0 := laws_FnTableVersion.mono_l k
  ·intro y0 y1 y2 y3 y4 y5 y6 y7 y8
   unfold laws_FnTableVersion.j0
   repeat' first
   | (with_reducible exact ih0 _ _ _ _ _ _ _ _ _)
   | (with_reducible exact impl_TablePut.mono _ _ _ _ _ _)
   | (with_reducible exact impl_TableVersion.mono _ _)
   | (with_reducible exact laws_lhFacts.mono _ _ _)
   | (with_reducible exact spec_DrawTablePut.mono _ _)
   | (with_reducible exact spec_TableOk.mono _ _)
   | (with_reducible exact spec_TablePut.mono _ _ _ _ _ _)
   | (with_reducible exact spec_TableVersion.mono _ _)
   | (with_reducible exact LeO.refl _)
   | (with_reducible exact LeO.none _)
   | (with_reducible refine LeO.ite ?_ ?_)
   | (with_reducible refine LeO.bind ?_ (fun _ => ?_))
   | exact ih0 _ _ _ _ _ _ _ _ _
   | exact impl_TablePut.mono _ _ _ _ _ _
   | exact impl_TableVersion.mono _ _
   | exact laws_lhFacts.mono _ _ _
   | exact spec_DrawTablePut.mono _ _
   | exact spec_TableOk.mono _ _
   | exact spec_TablePut.mono _ _ _ _ _ _
   | exact spec_TableVersion.mono _ _
   | exact LeO.none _
   | refine LeO.ite ?_ ?_
   | refine LeO.bind ?_ (fun _ => ?_)
theorem laws_FnTableVersion.mono : ∀ a0 k, LeO (laws_FnTableVersion.f k a0) (laws_FnTableVersion.f (k + 1) a0) := by
 intro a0 k
 have ih0 := laws_FnTableVersion.mono_l k
 unfold laws_FnTableVersion.f
 repeat' first
   | (with_reducible exact ih0 _ _ _ _ _ _ _ _ _)
   | (with_reducible exact impl_TablePut.mono _ _ _ _ _ _)
   | (with_reducible exact impl_TableVersion.mono _ _)
   | (with_reducible exact laws_lhFacts.mono _ _ _)
   | (with_reducible exact spec_DrawTablePut.mono _ _)
   | (with_reducible exact spec_TableOk.mono _ _)
   | (with_reducible exact spec_TablePut.mono _ _ _ _ _ _)
   | (with_reducible exact spec_TableVersion.mono _ _)
   | (with_reducible exact LeO.refl _)
   | (with_reducible exact LeO.none _)
   | (with_reducible refine LeO.ite ?_ ?_)
   | (with_reducible refine LeO.bind ?_ (fun _ => ?_))
   | exact ih0 _ _ _ _ _ _ _ _ _
   | exact impl_TablePut.mono _ _ _ _ _ _
   | exact impl_TableVersion.mono _ _
   | exact laws_lhFacts.mono _ _ _
   | exact spec_DrawTablePut.mono _ _
   | exact spec_TableOk.mono _ _
   | exact spec_TablePut.mono _ _ _ _ _ _
   | exact spec_TableVersion.mono _ _
   | exact LeO.none _
   | refine LeO.ite ?_ ?_
   | refine LeO.bind ?_ (fun _ => ?_)
set_option maxHeartbeats 8000000 in
set_option maxRecDepth 100000 in
theorem laws_FnTableVersion.calls (k : Nat) (A0 : Option Addr) (c0 : Nat) (l0 : List Int) (r : Bool) (w : World) (hr0 : Kd.C (Kd.int .u8) w A0 l0.length l0) (hc0 : l0.length ≤ c0) (h : laws_FnTableVersion.f k l0 = some r) :
  Calls Try.prog 5 #[.slice A0 l0.length c0] w fun e w' => e = .returned (.bool r) ∧ Below w.heap.size w w' := by
 have hu30 := Try.underlying30
 have HR0 := Zz.mk hr0
 have HC0 := Zz.mk hc0
 clear hr0 hc0
 have HB := Zz.mk (Below.refl w.heap.size w)
 have H : (if (l0.length : Int) > 1048576 then (some true) else ((spec_DrawTablePut.f k l0).bind fun bt459 => ((impl_TablePut.f k bt459.1 bt459.2.1 bt459.2.2.1 bt459.2.2.2.1 bt459.2.2.2.2).bind fun bt467 => ((spec_TablePut.f k bt459.1 bt459.2.1 bt459.2.2.1 bt459.2.2.2.1 bt459.2.2.2.2).bind fun bt471 => ((impl_TableVersion.f k bt459.1).bind fun t475 => ((impl_TableVersion.f k bt467.1).bind fun t476 => (if (bt467.2 != bt471.2) = true then (laws_FnTableVersion.j0 k bt459.1 bt467.2 t475 t476 true bt459.2.1 bt459.2.2.1 bt459.2.2.2.1 bt459.2.2.2.2) else ((laws_lhFacts.f k bt467.1 bt471.1).bind fun t477 => (if t477 = true then ((spec_TableVersion.f k bt459.1).bind fun t478 => (if t475 = t478 then ((spec_TableVersion.f k bt471.1).bind fun t479 => (laws_FnTableVersion.j0 k bt459.1 bt467.2 t475 t476 (t476 != t479) bt459.2.1 bt459.2.2.1 bt459.2.2.2.1 bt459.2.2.2.2)) else (laws_FnTableVersion.j0 k bt459.1 bt467.2 t475 t476 true bt459.2.1 bt459.2.2.1 bt459.2.2.2.1 bt459.2.2.2.2))) else (laws_FnTableVersion.j0 k bt459.1 bt467.2 t475 t476 true bt459.2.1 bt459.2.2.1 bt459.2.2.2.1 bt459.2.2.2.2)))))))))) = some r := h
 clear h
 by_cases c2 : (l0.length : Int) > 1048576
 ·rw [if_pos c2] at H
  have c2b0 : decide (1048576 < (l0.length : Int)) = true := decide_eq_true c2
  have c2b1 : decide (1048576 < l0.length) = true := decide_eq_true (by omega)
  clear c2
  obtain rfl := Option.some.inj H
  go_enter Try.func5, Try.ntmps5
  go_wp2
  go_ret
  exact ⟨by first | rfl | (simp [*, errW_none, errW_some] <;> rfl), by repeat (first | (with_reducible first | exact HB.out | apply bwA | apply pwN | apply bw1) | exact HB.out)⟩
 ·rw [if_neg c2] at H
  have c2b0 : decide (1048576 < (l0.length : Int)) = false := decide_eq_false c2
  have c2b1 : decide (1048576 < l0.length) = false := decide_eq_false (by omega)
  clear c2
  replace H := Option.bind_eq_some_iff.mp H
  obtain ⟨⟨t459, t462, t463, t464, t465⟩, A30, H⟩ := H
  replace H : ((impl_TablePut.f k t459 t462 t463 t464 t465).bind fun bt467 => ((spec_TablePut.f k t459 t462 t463 t464 t465).bind fun bt471 => ((impl_TableVersion.f k t459).bind fun t475 => ((impl_TableVersion.f k bt467.1).bind fun t476 => (if (bt467.2 != bt471.2) = true then (laws_FnTableVersion.j0 k t459 bt467.2 t475 t476 true t462 t463 t464 t465) else ((laws_lhFacts.f k bt467.1 bt471.1).bind fun t477 => (if t477 = true then ((spec_TableVersion.f k t459).bind fun t478 => (if t475 = t478 then ((spec_TableVersion.f k bt471.1).bind fun t479 => (laws_FnTableVersion.j0 k t459 bt467.2 t475 t476 (t476 != t479) t462 t463 t464 t465)) else (laws_FnTableVersion.j0 k t459 bt467.2 t475 t476 true t462 t463 t464 t465))) else (laws_FnTableVersion.j0 k t459 bt467.2 t475 t476 true t462 t463 t464 t465)))))))) = some r := H
  have A3 := Zz.mk A30
  clear A30
  replace H := Option.bind_eq_some_iff.mp H
  obtain ⟨⟨t467, t470⟩, A40, H⟩ := H
  replace H : ((spec_TablePut.f k t459 t462 t463 t464 t465).bind fun bt471 => ((impl_TableVersion.f k t459).bind fun t475 => ((impl_TableVersion.f k t467).bind fun t476 => (if (t470 != bt471.2) = true then (laws_FnTableVersion.j0 k t459 t470 t475 t476 true t462 t463 t464 t465) else ((laws_lhFacts.f k t467 bt471.1).bind fun t477 => (if t477 = true then ((spec_TableVersion.f k t459).bind fun t478 => (if t475 = t478 then ((spec_TableVersion.f k bt471.1).bind fun t479 => (laws_FnTableVersion.j0 k t459 t470 t475 t476 (t476 != t479) t462 t463 t464 t465)) else (laws_FnTableVersion.j0 k t459 t470 t475 t476 true t462 t463 t464 t465))) else (laws_FnTableVersion.j0 k t459 t470 t475 t476 true t462 t463 t464 t465))))))) = some r := H
  have A4 := Zz.mk A40
  clear A40
  replace H := Option.bind_eq_some_iff.mp H
  obtain ⟨⟨t471, t474⟩, A50, H⟩ := H
  replace H : ((impl_TableVersion.f k t459).bind fun t475 => ((impl_TableVersion.f k t467).bind fun t476 => (if (t470 != t474) = true then (laws_FnTableVersion.j0 k t459 t470 t475 t476 true t462 t463 t464 t465) else ((laws_lhFacts.f k t467 t471).bind fun t477 => (if t477 = true then ((spec_TableVersion.f k t459).bind fun t478 => (if t475 = t478 then ((spec_TableVersion.f k t471).bind fun t479 => (laws_FnTableVersion.j0 k t459 t470 t475 t476 (t476 != t479) t462 t463 t464 t465)) else (laws_FnTableVersion.j0 k t459 t470 t475 t476 true t462 t463 t464 t465))) else (laws_FnTableVersion.j0 k t459 t470 t475 t476 true t462 t463 t464 t465)))))) = some r := H
  have A5 := Zz.mk A50
  clear A50
  replace H := Option.bind_eq_some_iff.mp H
  obtain ⟨t475, A60, H⟩ := H
  replace H : ((impl_TableVersion.f k t467).bind fun t476 => (if (t470 != t474) = true then (laws_FnTableVersion.j0 k t459 t470 t475 t476 true t462 t463 t464 t465) else ((laws_lhFacts.f k t467 t471).bind fun t477 => (if t477 = true then ((spec_TableVersion.f k t459).bind fun t478 => (if t475 = t478 then ((spec_TableVersion.f k t471).bind fun t479 => (laws_FnTableVersion.j0 k t459 t470 t475 t476 (t476 != t479) t462 t463 t464 t465)) else (laws_FnTableVersion.j0 k t459 t470 t475 t476 true t462 t463 t464 t465))) else (laws_FnTableVersion.j0 k t459 t470 t475 t476 true t462 t463 t464 t465))))) = some r := H
  have A6 := Zz.mk A60
  clear A60
  replace H := Option.bind_eq_some_iff.mp H
  obtain ⟨t476, A70, H⟩ := H
  replace H : (if (t470 != t474) = true then (laws_FnTableVersion.j0 k t459 t470 t475 t476 true t462 t463 t464 t465) else ((laws_lhFacts.f k t467 t471).bind fun t477 => (if t477 = true then ((spec_TableVersion.f k t459).bind fun t478 => (if t475 = t478 then ((spec_TableVersion.f k t471).bind fun t479 => (laws_FnTableVersion.j0 k t459 t470 t475 t476 (t476 != t479) t462 t463 t464 t465)) else (laws_FnTableVersion.j0 k t459 t470 t475 t476 true t462 t463 t464 t465))) else (laws_FnTableVersion.j0 k t459 t470 t475 t476 true t462 t463 t464 t465)))) = some r := H
  have A7 := Zz.mk A70
  clear A70
  have HC8 := Zz.mk H
  clear H
  go_enter Try.func5, Try.ntmps5
  go_upto_region 8 with (first | ((with_reducible refine gate_callee (f := 20) rfl ?_); refine goesL_ (some 16) rfl rfl Try.func20 (by kernel_rfl) rfl #[.slice A0 l0.length c0] rfl (by (try simp only [List.map_toArray, List.map_cons, List.map_nil]); first | done | rfl | (simp only [List.length_drop, List.length_take]; rfl)) ?_; (with_reducible refine (spec_DrawTablePut.calls k _ _ l0 t459 t462 t463 t464 t465 _ ?side1 ?side2 A3.out).mono ?_); (case side1 => repeat (first | exact HR0.out | (with_reducible refine Kd.C_alloc ?_ _) | (with_reducible refine Kd.C_drewN ?_ _) | (with_reducible refine Kd.C_drew ?_))); (case side2 => exact HC0.out); rintro e w9 ⟨v460, rfl, ho0, hb⟩; refine ⟨_, rfl, ?_⟩; have n0_ := Zz.mk (Kd.R_lower ho0 (bwZ (by repeat (first | (with_reducible first | exact HB.out | apply bwA | apply pwN | apply bw1) | exact HB.out)))); have n1_ := Zz.mk (bwP (by repeat (first | (with_reducible first | exact HB.out | apply bwA | apply pwN | apply bw1) | exact HB.out)) hb); clear HB; have HO461 := n0_; have HB := n1_; clear n0_ n1_; (try clear hb); (try clear hb2); (try clear hk); (try clear hi); (try clear ho0); (try clear A3)) | ((with_reducible refine gate_dst (N := 4) rfl ?_); refine box_event ?hg (N := 4) ?hd (cs := #[.int .i64 0, .int .i64 0, .int .i64 0, .bool false]) (t := 30) ?hr ?_; (case hd => rfl); (case hg => rfl); (case hr => first | (go_simp; done) | (go_simp; rfl)); intro gb466 hg w10 hbox hb; have n0_ := Zz.mk (Kd.R_below (Kd.R_elderB (by (with_reducible repeat (first | apply Kd.R_alloc | apply Kd.R_drewN | apply Kd.R_drew)); exact HO461.out) gb466 (Nat.le_of_eq hg.symm)) hb); have n1_ := Zz.mk (bwP (by repeat (first | (with_reducible first | exact HB.out | apply bwA | apply pwN | apply bw1) | exact HB.out)) hb); have n2_ := Zz.mk (hbox); have n3_ := Zz.mk ((by rw [hg]; exact (bwZ (by repeat (first | (with_reducible first | exact HB.out | apply bwA | apply pwN | apply bw1) | exact HB.out))) : w.heap.size ≤ gb466)); have n4_ := Zz.mk ((by rw [hg]; exact (bwZ (by repeat (first | (with_reducible first | exact HB.out | apply bwA | apply pwN | apply bw1) | exact HB.out))) : w.heap.size ≤ gb466)); clear HO461; clear HB; have HO461 := n0_; have HB := n1_; have BK466 := n2_; have GW466 := n3_; have GE466 := n4_; clear n0_ n1_ n2_ n3_ n4_; clear hb hbox hg; have hcz11_0 : w10.cell? ⟨gb466, 0, none⟩ = some (.int .i64 0) := (bkC BK466.out 0).trans rfl; have hcz11_1 : w10.cell? ⟨gb466, 1, none⟩ = some (.int .i64 0) := (bkC BK466.out 1).trans rfl; have hcz11_2 : w10.cell? ⟨gb466, 2, none⟩ = some (.int .i64 0) := (bkC BK466.out 2).trans rfl; have hcz11_3 : w10.cell? ⟨gb466, 3, none⟩ = some (.bool false) := (bkC BK466.out 3).trans rfl; have hfz11_0 := bkF BK466.out 0; have hfz11_1 := bkF BK466.out 1; have hfz11_2 := bkF BK466.out 2; have hfz11_3 := bkF BK466.out 3; obtain ⟨Ao12, co12, eo12⟩ := Kd.R_slice HO461.out; subst eo12) | ((with_reducible refine gate_callee (f := 14) rfl ?_); refine goesL_ (some 22) rfl rfl Try.func14 (by kernel_rfl) rfl #[.slice Ao12 t459.length co12, .agg #[.int .i64 t462, .int .i64 t463, .int .i64 t464, .bool t465]] rfl (by (try simp only [List.map_toArray, List.map_cons, List.map_nil]); first | done | rfl | (simp only [List.length_drop, List.length_take]; rfl)) ?_; (with_reducible refine (impl_TablePut.calls k _ _ t459 t462 t463 t464 t465 t467 t470 _ ?side1 ?side2 A4.out).mono ?_); (case side1 => refine (Kd.R_reads' (e := 30) (base := w.heap.size) (ok := fun k_ => (True ∧ k_ ≠ gb466)) (n := t459.length) (c := co12) ?_).2.2; exact (by (with_reducible repeat (first | apply Kd.R_alloc | apply Kd.R_drewN | apply Kd.R_drew)); exact (Kd.R_mono (Kd.R_far (p := ⟨gb466, 3, none⟩) (Kd.R_far (p := ⟨gb466, 2, none⟩) (Kd.R_far (p := ⟨gb466, 1, none⟩) (Kd.R_far (p := ⟨gb466, 0, none⟩) (Kd.R_mono HO461.out (fun k_ hk => (⟨hk, hk.2⟩ : _ ∧ k_ ≠ gb466))) (fun _ hk => hk.2) (.int .i64 t462)) (fun _ hk => hk.2) (.int .i64 t463)) (fun _ hk => hk.2) (.int .i64 t464)) (fun _ hk => hk.2) (.bool t465)) (fun _ h_ => h_.1)))); (case side2 => exact (Kd.R_reads' HO461.out).2.1); rintro e w13 ⟨v468, rfl, ho0, hb⟩; refine ⟨_, rfl, ?_⟩; have n0_ := Zz.mk (Kd.R_elder' (by (with_reducible repeat (first | apply Kd.R_alloc | apply Kd.R_drewN | apply Kd.R_drew)); exact (Kd.R_mono (Kd.R_far (p := ⟨gb466, 3, none⟩) (Kd.R_far (p := ⟨gb466, 2, none⟩) (Kd.R_far (p := ⟨gb466, 1, none⟩) (Kd.R_far (p := ⟨gb466, 0, none⟩) (Kd.R_mono HO461.out (fun k_ hk => (⟨hk, hk.2⟩ : _ ∧ k_ ≠ gb466))) (fun _ hk => hk.2) (.int .i64 t462)) (fun _ hk => hk.2) (.int .i64 t463)) (fun _ hk => hk.2) (.int .i64 t464)) (fun _ hk => hk.2) (.bool t465)) (fun _ h_ => h_.1))) (Kd.R_base ho0) hb); have n1_ := Zz.mk (Kd.R_lower (Kd.R_newB (Kd.R_new' ho0 (Kd.R_lt (by (with_reducible repeat (first | apply Kd.R_alloc | apply Kd.R_drewN | apply Kd.R_drew)); exact (Kd.R_mono (Kd.R_far (p := ⟨gb466, 3, none⟩) (Kd.R_far (p := ⟨gb466, 2, none⟩) (Kd.R_far (p := ⟨gb466, 1, none⟩) (Kd.R_far (p := ⟨gb466, 0, none⟩) (Kd.R_mono HO461.out (fun k_ hk => (⟨hk, hk.2⟩ : _ ∧ k_ ≠ gb466))) (fun _ hk => hk.2) (.int .i64 t462)) (fun _ hk => hk.2) (.int .i64 t463)) (fun _ hk => hk.2) (.int .i64 t464)) (fun _ hk => hk.2) (.bool t465)) (fun _ h_ => h_.1))))) (g := gb466) (o := .cells #[.int .i64 t462, .int .i64 t463, .int .i64 t464, .bool t465] 30 (0, 0)) (by (with_reducible repeat (first | refine bkN ?_ _ | refine bkD ?_ | refine bkA ?_ _)); refine blk_put (cs := #[.int .i64 t462, .int .i64 t463, .int .i64 t464, .bool false]) ?_ 3 _ rfl; (with_reducible repeat (first | refine bkN ?_ _ | refine bkD ?_ | refine bkA ?_ _)); refine blk_put (cs := #[.int .i64 t462, .int .i64 t463, .int .i64 0, .bool false]) ?_ 2 _ rfl; (with_reducible repeat (first | refine bkN ?_ _ | refine bkD ?_ | refine bkA ?_ _)); refine blk_put (cs := #[.int .i64 t462, .int .i64 0, .int .i64 0, .bool false]) ?_ 1 _ rfl; (with_reducible repeat (first | refine bkN ?_ _ | refine bkD ?_ | refine bkA ?_ _)); refine blk_put (cs := #[.int .i64 0, .int .i64 0, .int .i64 0, .bool false]) ?_ 0 _ rfl; (with_reducible repeat (first | refine bkN ?_ _ | refine bkD ?_ | refine bkA ?_ _)); exact BK466.out)) (bwZ (by repeat (first | (with_reducible first | exact HB.out | apply bwA | apply pwN | apply bw1 | refine bwS ?_ GE466.out) | exact HB.out)))); have n2_ := Zz.mk (bkB (g := gb466) (o := .cells #[.int .i64 t462, .int .i64 t463, .int .i64 t464, .bool t465] 30 (0, 0)) (by (with_reducible repeat (first | refine bkN ?_ _ | refine bkD ?_ | refine bkA ?_ _)); refine blk_put (cs := #[.int .i64 t462, .int .i64 t463, .int .i64 t464, .bool false]) ?_ 3 _ rfl; (with_reducible repeat (first | refine bkN ?_ _ | refine bkD ?_ | refine bkA ?_ _)); refine blk_put (cs := #[.int .i64 t462, .int .i64 t463, .int .i64 0, .bool false]) ?_ 2 _ rfl; (with_reducible repeat (first | refine bkN ?_ _ | refine bkD ?_ | refine bkA ?_ _)); refine blk_put (cs := #[.int .i64 t462, .int .i64 0, .int .i64 0, .bool false]) ?_ 1 _ rfl; (with_reducible repeat (first | refine bkN ?_ _ | refine bkD ?_ | refine bkA ?_ _)); refine blk_put (cs := #[.int .i64 0, .int .i64 0, .int .i64 0, .bool false]) ?_ 0 _ rfl; (with_reducible repeat (first | refine bkN ?_ _ | refine bkD ?_ | refine bkA ?_ _)); exact BK466.out) hb); have n3_ := Zz.mk (bwP (by repeat (first | (with_reducible first | exact HB.out | apply bwA | apply pwN | apply bw1 | refine bwS ?_ GE466.out) | exact HB.out)) hb); clear HO461; clear BK466; clear HB; have HO461 := n0_; have HO469 := n1_; have BK466 := n2_; have HB := n3_; clear n0_ n1_ n2_ n3_; (try clear hb); (try clear hb2); (try clear hk); (try clear hi); (try clear ho0); (try clear A4); have hcz14_0 : w13.cell? ⟨gb466, 0, none⟩ = some (.int .i64 t462) := (bkC BK466.out 0).trans rfl; have hcz14_1 : w13.cell? ⟨gb466, 1, none⟩ = some (.int .i64 t463) := (bkC BK466.out 1).trans rfl; have hcz14_2 : w13.cell? ⟨gb466, 2, none⟩ = some (.int .i64 t464) := (bkC BK466.out 2).trans rfl; have hcz14_3 : w13.cell? ⟨gb466, 3, none⟩ = some (.bool t465) := (bkC BK466.out 3).trans rfl; have hfz14_0 := bkF BK466.out 0; have hfz14_1 := bkF BK466.out 1; have hfz14_2 := bkF BK466.out 2; have hfz14_3 := bkF BK466.out 3) | ((with_reducible refine gate_callee (f := 11) rfl ?_); refine goesL_ (some 28) rfl rfl Try.func11 (by kernel_rfl) rfl #[.slice Ao12 t459.length co12, .agg #[.int .i64 t462, .int .i64 t463, .int .i64 t464, .bool t465]] rfl (by (try simp only [List.map_toArray, List.map_cons, List.map_nil]); first | done | rfl | (simp only [List.length_drop, List.length_take]; rfl)) ?_; (with_reducible refine (spec_TablePut.calls k _ _ t459 t462 t463 t464 t465 t471 t474 _ ?side1 ?side2 A5.out).mono ?_); (case side1 => repeat (first | exact (Kd.R_reads' HO461.out).2.2 | (with_reducible refine Kd.C_alloc ?_ _) | (with_reducible refine Kd.C_drewN ?_ _) | (with_reducible refine Kd.C_drew ?_))); (case side2 => exact (Kd.R_reads' HO461.out).2.1); rintro e w15 ⟨v472, rfl, ho0, hb⟩; refine ⟨_, rfl, ?_⟩; have n0_ := Zz.mk (Kd.R_elder' (by (with_reducible repeat (first | apply Kd.R_alloc | apply Kd.R_drewN | apply Kd.R_drew)); exact HO461.out) (Kd.R_base ho0) hb); have n1_ := Zz.mk (Kd.R_elder' (by (with_reducible repeat (first | apply Kd.R_alloc | apply Kd.R_drewN | apply Kd.R_drew)); exact HO469.out) (Kd.R_base ho0) hb); have n2_ := Zz.mk (Kd.R_lower (Kd.R_newB (Kd.R_new' (Kd.R_new' ho0 (Kd.R_lt (by (with_reducible repeat (first | apply Kd.R_alloc | apply Kd.R_drewN | apply Kd.R_drew)); exact HO461.out))) (Kd.R_lt (by (with_reducible repeat (first | apply Kd.R_alloc | apply Kd.R_drewN | apply Kd.R_drew)); exact HO469.out))) (g := gb466) (o := .cells #[.int .i64 t462, .int .i64 t463, .int .i64 t464, .bool t465] 30 (0, 0)) (by (with_reducible repeat (first | refine bkN ?_ _ | refine bkD ?_ | refine bkA ?_ _)); exact BK466.out)) (bwZ (by repeat (first | (with_reducible first | exact HB.out | apply bwA | apply pwN | apply bw1 | refine bwS ?_ GE466.out) | exact HB.out)))); have n3_ := Zz.mk (bkB (g := gb466) (o := .cells #[.int .i64 t462, .int .i64 t463, .int .i64 t464, .bool t465] 30 (0, 0)) (by (with_reducible repeat (first | refine bkN ?_ _ | refine bkD ?_ | refine bkA ?_ _)); exact BK466.out) hb); have n4_ := Zz.mk (bwP (by repeat (first | (with_reducible first | exact HB.out | apply bwA | apply pwN | apply bw1 | refine bwS ?_ GE466.out) | exact HB.out)) hb); clear HO461; clear HO469; clear BK466; clear HB; have HO461 := n0_; have HO469 := n1_; have HO473 := n2_; have BK466 := n3_; have HB := n4_; clear n0_ n1_ n2_ n3_ n4_; (try clear hb); (try clear hb2); (try clear hk); (try clear hi); (try clear ho0); (try clear A5)) | ((with_reducible refine gate_callee (f := 21) rfl ?_); refine goesL_ (some 32) rfl rfl Try.func21 (by kernel_rfl) rfl #[.slice Ao12 t459.length co12] rfl (by (try simp only [List.map_toArray, List.map_cons, List.map_nil]); first | done | rfl | (simp only [List.length_drop, List.length_take]; rfl)) ?_; (with_reducible refine (impl_TableVersion.calls k _ _ t459 t475 _ ?side1 ?side2 A6.out).mono ?_); (case side1 => repeat (first | exact (Kd.R_reads' HO461.out).2.2 | (with_reducible refine Kd.C_alloc ?_ _) | (with_reducible refine Kd.C_drewN ?_ _) | (with_reducible refine Kd.C_drew ?_))); (case side2 => exact (Kd.R_reads' HO461.out).2.1); rintro e w16 ⟨rfl, hb⟩; refine ⟨_, rfl, ?_⟩; have n0_ := Zz.mk (Kd.R_below (by (with_reducible repeat (first | apply Kd.R_alloc | apply Kd.R_drewN | apply Kd.R_drew)); exact HO461.out) hb); have n1_ := Zz.mk (Kd.R_below (by (with_reducible repeat (first | apply Kd.R_alloc | apply Kd.R_drewN | apply Kd.R_drew)); exact HO469.out) hb); have n2_ := Zz.mk (Kd.R_below (by (with_reducible repeat (first | apply Kd.R_alloc | apply Kd.R_drewN | apply Kd.R_drew)); exact HO473.out) hb); have n3_ := Zz.mk (bkB (g := gb466) (o := .cells #[.int .i64 t462, .int .i64 t463, .int .i64 t464, .bool t465] 30 (0, 0)) (by (with_reducible repeat (first | refine bkN ?_ _ | refine bkD ?_ | refine bkA ?_ _)); exact BK466.out) hb); have n4_ := Zz.mk (bwP (by repeat (first | (with_reducible first | exact HB.out | apply bwA | apply pwN | apply bw1 | refine bwS ?_ GE466.out) | exact HB.out)) hb); clear HO461; clear HO469; clear HO473; clear BK466; clear HB; have HO461 := n0_; have HO469 := n1_; have HO473 := n2_; have BK466 := n3_; have HB := n4_; clear n0_ n1_ n2_ n3_ n4_; (try clear hb); (try clear hb2); (try clear hk); (try clear hi); (try clear A6); obtain ⟨Ao17, co17, eo17⟩ := Kd.R_slice HO469.out; subst eo17) | ((with_reducible refine gate_callee (f := 21) rfl ?_); refine goesL_ (some 34) rfl rfl Try.func21 (by kernel_rfl) rfl #[.slice Ao17 t467.length co17] rfl (by (try simp only [List.map_toArray, List.map_cons, List.map_nil]); first | done | rfl | (simp only [List.length_drop, List.length_take]; rfl)) ?_; (with_reducible refine (impl_TableVersion.calls k _ _ t467 t476 _ ?side1 ?side2 A7.out).mono ?_); (case side1 => repeat (first | exact (Kd.R_reads' HO469.out).2.2 | (with_reducible refine Kd.C_alloc ?_ _) | (with_reducible refine Kd.C_drewN ?_ _) | (with_reducible refine Kd.C_drew ?_))); (case side2 => exact (Kd.R_reads' HO469.out).2.1); rintro e w18 ⟨rfl, hb⟩; refine ⟨_, rfl, ?_⟩; have n0_ := Zz.mk (Kd.R_below (by (with_reducible repeat (first | apply Kd.R_alloc | apply Kd.R_drewN | apply Kd.R_drew)); exact HO461.out) hb); have n1_ := Zz.mk (Kd.R_below (by (with_reducible repeat (first | apply Kd.R_alloc | apply Kd.R_drewN | apply Kd.R_drew)); exact HO469.out) hb); have n2_ := Zz.mk (Kd.R_below (by (with_reducible repeat (first | apply Kd.R_alloc | apply Kd.R_drewN | apply Kd.R_drew)); exact HO473.out) hb); have n3_ := Zz.mk (bkB (g := gb466) (o := .cells #[.int .i64 t462, .int .i64 t463, .int .i64 t464, .bool t465] 30 (0, 0)) (by (with_reducible repeat (first | refine bkN ?_ _ | refine bkD ?_ | refine bkA ?_ _)); exact BK466.out) hb); have n4_ := Zz.mk (bwP (by repeat (first | (with_reducible first | exact HB.out | apply bwA | apply pwN | apply bw1 | refine bwS ?_ GE466.out) | exact HB.out)) hb); clear HO461; clear HO469; clear HO473; clear BK466; clear HB; have HO461 := n0_; have HO469 := n1_; have HO473 := n2_; have BK466 := n3_; have HB := n4_; clear n0_ n1_ n2_ n3_ n4_; (try clear hb); (try clear hb2); (try clear hk); (try clear hi); (try clear A7)))
  (try simp only [Act.put, List.setIfInBounds_toArray, List.set_cons_zero, List.set_cons_succ])
  go_cut [55] (fun v55 wc => ∃ (kq : Nat) (x55_7 : Bool), v55 = .bool x55_7 ∧ Zz (laws_FnTableVersion.j0 kq t459 t470 t475 t476 x55_7 t462 t463 t464 t465 = some r) ∧ Zz (kq ≤ k) ∧ Zz (Kd.R k30 30 wc w.heap.size (fun k_ => k_ ≠ gb466) (.slice Ao12 t459.length co12) t459) ∧ Zz (wc.heap[gb466]? = some (.cells #[.int .i64 t462, .int .i64 t463, .int .i64 t464, .bool t465] 30 (0, 0))) ∧ Zz (Below w.heap.size w wc))
  case first =>
   have H := HC8.out
   clear HC8
   by_cases c19 : (t470 != t474) = true
   ·rw [if_pos c19] at H
    have c19b0 : (t470 != t474) = true := c19
    (try (have c19b1 : decide (t470 = t474) = false := by simpa using c19))
    (try (have c19b2 : (t470 == t474) = false := by simpa using c19))
    (try (have c19b3 : ¬ (t470 = t474) := by simpa using c19))
    clear c19
    (first | rw [c19b0] | (simp only [i64_w, i32_w]; rw [c19b0]) | skip)
    have H' := Zz.mk H
    clear H
    go_wp2
    go_meet
    case rel => exact ⟨_, (true), (by first | rfl | (simp; done) | (simp [*]; done)), H', ⟨by first | omega | exact Nat.le_refl _⟩, ⟨by (with_reducible repeat (first | apply Kd.R_alloc | apply Kd.R_drewN | apply Kd.R_drew)); exact Kd.R_mono HO461.out (fun _ hk => hk.1.1.2)⟩, ⟨by (with_reducible repeat (first | refine bkN ?_ _ | refine bkD ?_ | refine bkA ?_ _)); exact BK466.out⟩, ⟨by repeat (first | (with_reducible first | exact HB.out | apply bwA | apply pwN | apply bw1 | refine bwS ?_ GE466.out) | exact HB.out)⟩⟩
   ·rw [if_neg c19] at H
    have c19b0 : (t470 != t474) = false := by simpa using c19
    (try (have c19b1 : decide (t470 = t474) = true := by simpa using c19))
    (try (have c19b2 : (t470 == t474) = true := by simpa using c19))
    clear c19
    (first | rw [c19b0] | (simp only [i64_w, i32_w]; rw [c19b0]) | skip)
    replace H := Option.bind_eq_some_iff.mp H
    obtain ⟨t477, A200, H⟩ := H
    replace H : (if t477 = true then ((spec_TableVersion.f k t459).bind fun t478 => (if t475 = t478 then ((spec_TableVersion.f k t471).bind fun t479 => (laws_FnTableVersion.j0 k t459 t470 t475 t476 (t476 != t479) t462 t463 t464 t465)) else (laws_FnTableVersion.j0 k t459 t470 t475 t476 true t462 t463 t464 t465))) else (laws_FnTableVersion.j0 k t459 t470 t475 t476 true t462 t463 t464 t465)) = some r := H
    have A20 := Zz.mk A200
    clear A200
    by_cases c21 : t477 = true
    ·subst c21
     have H1 : ((spec_TableVersion.f k t459).bind fun t478 => (if t475 = t478 then ((spec_TableVersion.f k t471).bind fun t479 => (laws_FnTableVersion.j0 k t459 t470 t475 t476 (t476 != t479) t462 t463 t464 t465)) else (laws_FnTableVersion.j0 k t459 t470 t475 t476 true t462 t463 t464 t465))) = some r := by rw [if_pos rfl] at H; exact H
     clear H
     have H := H1
     clear H1
     replace H := Option.bind_eq_some_iff.mp H
     obtain ⟨t478, A220, H⟩ := H
     replace H : (if t475 = t478 then ((spec_TableVersion.f k t471).bind fun t479 => (laws_FnTableVersion.j0 k t459 t470 t475 t476 (t476 != t479) t462 t463 t464 t465)) else (laws_FnTableVersion.j0 k t459 t470 t475 t476 true t462 t463 t464 t465)) = some r := H
     have A22 := Zz.mk A220
     clear A220
     by_cases c23 : t475 = t478
     ·rw [if_pos c23] at H
      have c23b0 : (t475 == t478) = true := beq_iff_eq.mpr c23
      have c23b1 : (t475 != t478) = false := bne_eq_false_iff_eq.mpr c23
      clear c23
      replace H := Option.bind_eq_some_iff.mp H
      obtain ⟨t479, A240, H⟩ := H
      replace H : (laws_FnTableVersion.j0 k t459 t470 t475 t476 (t476 != t479) t462 t463 t464 t465) = some r := H
      have A24 := Zz.mk A240
      clear A240
      have H' := Zz.mk H
      clear H
      obtain ⟨Ao25, co25, eo25⟩ := Kd.R_slice HO473.out
      subst eo25
      go_wp2_with (first | (go_at_call 22; (with_reducible refine (laws_lhFacts.calls k _ _ t467 _ _ t471 true _ ?side1 ?side2 ?side3 ?side4 A20.out).mono ?_); (case side1 => repeat (first | exact (Kd.R_reads' HO469.out).2.2 | (with_reducible refine Kd.C_alloc ?_ _) | (with_reducible refine Kd.C_drewN ?_ _) | (with_reducible refine Kd.C_drew ?_))); (case side2 => exact (Kd.R_reads' HO469.out).2.1); (case side3 => repeat (first | exact (Kd.R_reads' HO473.out).2.2 | (with_reducible refine Kd.C_alloc ?_ _) | (with_reducible refine Kd.C_drewN ?_ _) | (with_reducible refine Kd.C_drew ?_))); (case side4 => exact (Kd.R_reads' HO473.out).2.1); rintro e w' ⟨rfl, ⟨nd, rfl⟩⟩; (try clear A20)) | (go_at_call 23; (with_reducible refine (spec_TableVersion.calls k _ _ t459 t478 _ ?side1 ?side2 A22.out).mono ?_); (case side1 => repeat (first | exact (Kd.R_reads' HO461.out).2.2 | (with_reducible refine Kd.C_alloc ?_ _) | (with_reducible refine Kd.C_drewN ?_ _) | (with_reducible refine Kd.C_drew ?_))); (case side2 => exact (Kd.R_reads' HO461.out).2.1); rintro e w26 ⟨rfl, hb⟩; have n0_ := Zz.mk (Kd.R_below (by (with_reducible repeat (first | apply Kd.R_alloc | apply Kd.R_drewN | apply Kd.R_drew)); exact HO461.out) hb); have n1_ := Zz.mk (Kd.R_below (by (with_reducible repeat (first | apply Kd.R_alloc | apply Kd.R_drewN | apply Kd.R_drew)); exact HO469.out) hb); have n2_ := Zz.mk (Kd.R_below (by (with_reducible repeat (first | apply Kd.R_alloc | apply Kd.R_drewN | apply Kd.R_drew)); exact HO473.out) hb); have n3_ := Zz.mk (bkB (g := gb466) (o := .cells #[.int .i64 t462, .int .i64 t463, .int .i64 t464, .bool t465] 30 (0, 0)) (by (with_reducible repeat (first | refine bkN ?_ _ | refine bkD ?_ | refine bkA ?_ _)); exact BK466.out) hb); have n4_ := Zz.mk (bwP (by repeat (first | (with_reducible first | exact HB.out | apply bwA | apply pwN | apply bw1 | refine bwS ?_ GE466.out) | exact HB.out)) hb); clear HO461; clear HO469; clear HO473; clear BK466; clear HB; have HO461 := n0_; have HO469 := n1_; have HO473 := n2_; have BK466 := n3_; have HB := n4_; clear n0_ n1_ n2_ n3_ n4_; (try clear hb); (try clear hb2); (try clear hk); (try clear hi); (try clear A22)) | (go_at_call 23; (with_reducible refine (spec_TableVersion.calls k _ _ t471 t479 _ ?side1 ?side2 A24.out).mono ?_); (case side1 => repeat (first | exact (Kd.R_reads' HO473.out).2.2 | (with_reducible refine Kd.C_alloc ?_ _) | (with_reducible refine Kd.C_drewN ?_ _) | (with_reducible refine Kd.C_drew ?_))); (case side2 => exact (Kd.R_reads' HO473.out).2.1); rintro e w27 ⟨rfl, hb⟩; have n0_ := Zz.mk (Kd.R_below (by (with_reducible repeat (first | apply Kd.R_alloc | apply Kd.R_drewN | apply Kd.R_drew)); exact HO461.out) hb); have n1_ := Zz.mk (Kd.R_below (by (with_reducible repeat (first | apply Kd.R_alloc | apply Kd.R_drewN | apply Kd.R_drew)); exact HO469.out) hb); have n2_ := Zz.mk (Kd.R_below (by (with_reducible repeat (first | apply Kd.R_alloc | apply Kd.R_drewN | apply Kd.R_drew)); exact HO473.out) hb); have n3_ := Zz.mk (bkB (g := gb466) (o := .cells #[.int .i64 t462, .int .i64 t463, .int .i64 t464, .bool t465] 30 (0, 0)) (by (with_reducible repeat (first | refine bkN ?_ _ | refine bkD ?_ | refine bkA ?_ _)); exact BK466.out) hb); have n4_ := Zz.mk (bwP (by repeat (first | (with_reducible first | exact HB.out | apply bwA | apply pwN | apply bw1 | refine bwS ?_ GE466.out) | exact HB.out)) hb); clear HO461; clear HO469; clear HO473; clear BK466; clear HB; have HO461 := n0_; have HO469 := n1_; have HO473 := n2_; have BK466 := n3_; have HB := n4_; clear n0_ n1_ n2_ n3_ n4_; (try clear hb); (try clear hb2); (try clear hk); (try clear hi); (try clear A24)))
      go_meet
      case rel => exact ⟨_, ((t476 != t479)), (by first | rfl | (simp; done) | (simp [*]; done)), H', ⟨by first | omega | exact Nat.le_refl _⟩, ⟨by (with_reducible repeat (first | apply Kd.R_alloc | apply Kd.R_drewN | apply Kd.R_drew)); exact Kd.R_mono HO461.out (fun _ hk => hk.1.1.2)⟩, ⟨by (with_reducible repeat (first | refine bkN ?_ _ | refine bkD ?_ | refine bkA ?_ _)); exact BK466.out⟩, ⟨by repeat (first | (with_reducible first | exact HB.out | apply bwA | apply pwN | apply bw1 | refine bwS ?_ GE466.out) | exact HB.out)⟩⟩
     ·rw [if_neg c23] at H
      have c23b0 : (t475 == t478) = false := beq_eq_false_iff_ne.mpr c23
      have c23b1 : (t475 != t478) = true := bne_iff_ne.mpr c23
      have H' := Zz.mk H
      clear H
      obtain ⟨Ao28, co28, eo28⟩ := Kd.R_slice HO473.out
      subst eo28
      go_wp2_with (first | (go_at_call 22; (with_reducible refine (laws_lhFacts.calls k _ _ t467 _ _ t471 true _ ?side1 ?side2 ?side3 ?side4 A20.out).mono ?_); (case side1 => repeat (first | exact (Kd.R_reads' HO469.out).2.2 | (with_reducible refine Kd.C_alloc ?_ _) | (with_reducible refine Kd.C_drewN ?_ _) | (with_reducible refine Kd.C_drew ?_))); (case side2 => exact (Kd.R_reads' HO469.out).2.1); (case side3 => repeat (first | exact (Kd.R_reads' HO473.out).2.2 | (with_reducible refine Kd.C_alloc ?_ _) | (with_reducible refine Kd.C_drewN ?_ _) | (with_reducible refine Kd.C_drew ?_))); (case side4 => exact (Kd.R_reads' HO473.out).2.1); rintro e w' ⟨rfl, ⟨nd, rfl⟩⟩; (try clear A20)) | (go_at_call 23; (with_reducible refine (spec_TableVersion.calls k _ _ t459 t478 _ ?side1 ?side2 A22.out).mono ?_); (case side1 => repeat (first | exact (Kd.R_reads' HO461.out).2.2 | (with_reducible refine Kd.C_alloc ?_ _) | (with_reducible refine Kd.C_drewN ?_ _) | (with_reducible refine Kd.C_drew ?_))); (case side2 => exact (Kd.R_reads' HO461.out).2.1); rintro e w29 ⟨rfl, hb⟩; have n0_ := Zz.mk (Kd.R_below (by (with_reducible repeat (first | apply Kd.R_alloc | apply Kd.R_drewN | apply Kd.R_drew)); exact HO461.out) hb); have n1_ := Zz.mk (Kd.R_below (by (with_reducible repeat (first | apply Kd.R_alloc | apply Kd.R_drewN | apply Kd.R_drew)); exact HO469.out) hb); have n2_ := Zz.mk (Kd.R_below (by (with_reducible repeat (first | apply Kd.R_alloc | apply Kd.R_drewN | apply Kd.R_drew)); exact HO473.out) hb); have n3_ := Zz.mk (bkB (g := gb466) (o := .cells #[.int .i64 t462, .int .i64 t463, .int .i64 t464, .bool t465] 30 (0, 0)) (by (with_reducible repeat (first | refine bkN ?_ _ | refine bkD ?_ | refine bkA ?_ _)); exact BK466.out) hb); have n4_ := Zz.mk (bwP (by repeat (first | (with_reducible first | exact HB.out | apply bwA | apply pwN | apply bw1 | refine bwS ?_ GE466.out) | exact HB.out)) hb); clear HO461; clear HO469; clear HO473; clear BK466; clear HB; have HO461 := n0_; have HO469 := n1_; have HO473 := n2_; have BK466 := n3_; have HB := n4_; clear n0_ n1_ n2_ n3_ n4_; (try clear hb); (try clear hb2); (try clear hk); (try clear hi); (try clear A22)))
      go_meet
      case rel => exact ⟨_, (true), (by first | rfl | (simp; done) | (simp [*]; done)), H', ⟨by first | omega | exact Nat.le_refl _⟩, ⟨by (with_reducible repeat (first | apply Kd.R_alloc | apply Kd.R_drewN | apply Kd.R_drew)); exact Kd.R_mono HO461.out (fun _ hk => hk.1.1.2)⟩, ⟨by (with_reducible repeat (first | refine bkN ?_ _ | refine bkD ?_ | refine bkA ?_ _)); exact BK466.out⟩, ⟨by repeat (first | (with_reducible first | exact HB.out | apply bwA | apply pwN | apply bw1 | refine bwS ?_ GE466.out) | exact HB.out)⟩⟩
    ·replace c21 := Bool.eq_false_iff.mpr c21
     subst c21
     have H1 : (laws_FnTableVersion.j0 k t459 t470 t475 t476 true t462 t463 t464 t465) = some r := by rw [if_neg (show ¬ (false = true) by decide)] at H; exact H
     clear H
     have H := H1
     clear H1
     have H' := Zz.mk H
     clear H
     obtain ⟨Ao30, co30, eo30⟩ := Kd.R_slice HO473.out
     subst eo30
     go_wp2_with (first | (go_at_call 22; (with_reducible refine (laws_lhFacts.calls k _ _ t467 _ _ t471 false _ ?side1 ?side2 ?side3 ?side4 A20.out).mono ?_); (case side1 => repeat (first | exact (Kd.R_reads' HO469.out).2.2 | (with_reducible refine Kd.C_alloc ?_ _) | (with_reducible refine Kd.C_drewN ?_ _) | (with_reducible refine Kd.C_drew ?_))); (case side2 => exact (Kd.R_reads' HO469.out).2.1); (case side3 => repeat (first | exact (Kd.R_reads' HO473.out).2.2 | (with_reducible refine Kd.C_alloc ?_ _) | (with_reducible refine Kd.C_drewN ?_ _) | (with_reducible refine Kd.C_drew ?_))); (case side4 => exact (Kd.R_reads' HO473.out).2.1); rintro e w' ⟨rfl, ⟨nd, rfl⟩⟩; (try clear A20)))
     go_meet
     case rel => exact ⟨_, (true), (by first | rfl | (simp; done) | (simp [*]; done)), H', ⟨by first | omega | exact Nat.le_refl _⟩, ⟨by (with_reducible repeat (first | apply Kd.R_alloc | apply Kd.R_drewN | apply Kd.R_drew)); exact Kd.R_mono HO461.out (fun _ hk => hk.1.1.2)⟩, ⟨by (with_reducible repeat (first | refine bkN ?_ _ | refine bkD ?_ | refine bkA ?_ _)); exact BK466.out⟩, ⟨by repeat (first | (with_reducible first | exact HB.out | apply bwA | apply pwN | apply bw1 | refine bwS ?_ GE466.out) | exact HB.out)⟩⟩
  case rest =>
   clear HC8
   try clear c1
   try clear c2
   try clear c2b0
   try clear c2b1
   try clear p2
   try clear c5
   try clear c11
   try clear c14
   try clear c19
   try clear c19b0
   try clear c19b1
   try clear c19b2
   try clear c20
   try clear c21
   try clear c23
   try clear c23b0
   try clear c23b1
   try clear hcz11_0
   try clear hcz11_1
   try clear hcz11_2
   try clear hcz11_3
   try clear hcz14_0
   try clear hcz14_1
   try clear hcz14_2
   try clear hcz14_3
   try clear hfz11_0
   try clear hfz11_1
   try clear hfz11_2
   try clear hfz11_3
   try clear hfz14_0
   try clear hfz14_1
   try clear hfz14_2
   try clear hfz14_3
   obtain ⟨kq, x55_7, rfl, HA, HJ7, HO_3, BK466, HB⟩ := hcut
   cases kq with
   | zero => exact absurd HA.out (by simp [laws_FnTableVersion.j0])
   | succ kj7 =>
    have H := HA.out
    clear HA
    simp only [laws_FnTableVersion.j0] at H
    by_cases c31 : x55_7 = true
    ·subst c31
     have H1 : (some false) = some r := by rw [if_pos rfl] at H; exact H
     clear H
     have H := H1
     clear H1
     obtain rfl := Option.some.inj H
     go_wp2
     go_ret
     exact ⟨by first | rfl | (simp [*, errW_none, errW_some] <;> rfl), by repeat (first | (with_reducible first | exact HB.out | apply bwA | apply pwN | apply bw1 | refine bwS ?_ GE466.out) | exact HB.out)⟩
    ·replace c31 := Bool.eq_false_iff.mpr c31
     subst c31
     have H1 : ((spec_TableOk.f kj7 t459).bind fun t480 => (if t480 = true then ((spec_FactOk.f t462 t463 t464 t465).bind fun t481 => (if t481 = true then (if t470 = true then (if t476 > t475 then (some true) else (some false)) else (some (t476 == t475))) else (some true))) else (some true))) = some r := by rw [if_neg (show ¬ (false = true) by decide)] at H; exact H
     clear H
     have H := H1
     clear H1
     replace H := Option.bind_eq_some_iff.mp H
     obtain ⟨t480, A320, H⟩ := H
     replace H : (if t480 = true then ((spec_FactOk.f t462 t463 t464 t465).bind fun t481 => (if t481 = true then (if t470 = true then (if t476 > t475 then (some true) else (some false)) else (some (t476 == t475))) else (some true))) else (some true)) = some r := H
     have A32 := Zz.mk A320
     clear A320
     by_cases c33 : t480 = true
     ·subst c33
      have H1 : ((spec_FactOk.f t462 t463 t464 t465).bind fun t481 => (if t481 = true then (if t470 = true then (if t476 > t475 then (some true) else (some false)) else (some (t476 == t475))) else (some true))) = some r := by rw [if_pos rfl] at H; exact H
      clear H
      have H := H1
      clear H1
      replace H := Option.bind_eq_some_iff.mp H
      obtain ⟨t481, A340, H⟩ := H
      replace H : (if t481 = true then (if t470 = true then (if t476 > t475 then (some true) else (some false)) else (some (t476 == t475))) else (some true)) = some r := H
      have A34 := Zz.mk A340
      clear A340
      by_cases c35 : t481 = true
      ·subst c35
       have H1 : (if t470 = true then (if t476 > t475 then (some true) else (some false)) else (some (t476 == t475))) = some r := by rw [if_pos rfl] at H; exact H
       clear H
       have H := H1
       clear H1
       by_cases c36 : t470 = true
       ·subst c36
        have H1 : (if t476 > t475 then (some true) else (some false)) = some r := by rw [if_pos rfl] at H; exact H
        clear H
        have H := H1
        clear H1
        by_cases c37 : t476 > t475
        ·rw [if_pos c37] at H
         have c37b0 : decide (t475 < t476) = true := decide_eq_true c37
         clear c37
         obtain rfl := Option.some.inj H
         go_wp2_with (first | ((with_reducible refine gate_callee (f := 24) rfl ?_); refine goesL_ (some 57) rfl rfl Try.func24 (by kernel_rfl) rfl #[.slice Ao12 t459.length co12] rfl (by (try simp only [List.map_toArray, List.map_cons, List.map_nil]); first | done | rfl | (simp only [List.length_drop, List.length_take]; rfl)) ?_; (with_reducible refine (spec_TableOk.calls kj7 _ _ t459 true _ ?side1 ?side2 A32.out).mono ?_); (case side1 => repeat (first | exact (Kd.R_reads' HO_3.out).2.2 | (with_reducible refine Kd.C_alloc ?_ _) | (with_reducible refine Kd.C_drewN ?_ _) | (with_reducible refine Kd.C_drew ?_))); (case side2 => exact (Kd.R_reads' HO_3.out).2.1); rintro e w38 ⟨rfl, hb⟩; refine ⟨_, rfl, ?_⟩; have n0_ := Zz.mk (Kd.R_below (by (with_reducible repeat (first | apply Kd.R_alloc | apply Kd.R_drewN | apply Kd.R_drew)); exact HO_3.out) hb); have n1_ := Zz.mk (bkB (g := gb466) (o := .cells #[.int .i64 t462, .int .i64 t463, .int .i64 t464, .bool t465] 30 (0, 0)) (by (with_reducible repeat (first | refine bkN ?_ _ | refine bkD ?_ | refine bkA ?_ _)); exact BK466.out) hb); have n2_ := Zz.mk (bwP (by repeat (first | (with_reducible first | exact HB.out | apply bwA | apply pwN | apply bw1 | refine bwS ?_ GE466.out) | exact HB.out)) hb); clear HO_3; clear BK466; clear HB; have HO_3 := n0_; have BK466 := n1_; have HB := n2_; clear n0_ n1_ n2_; (try clear hb); (try clear hb2); (try clear hk); (try clear hi); (try clear A32); have hcz39_0 : w38.cell? ⟨gb466, 0, none⟩ = some (.int .i64 t462) := (bkC BK466.out 0).trans rfl; have hcz39_1 : w38.cell? ⟨gb466, 1, none⟩ = some (.int .i64 t463) := (bkC BK466.out 1).trans rfl; have hcz39_2 : w38.cell? ⟨gb466, 2, none⟩ = some (.int .i64 t464) := (bkC BK466.out 2).trans rfl; have hcz39_3 : w38.cell? ⟨gb466, 3, none⟩ = some (.bool t465) := (bkC BK466.out 3).trans rfl; have hfz39_0 := bkF BK466.out 0; have hfz39_1 := bkF BK466.out 1; have hfz39_2 := bkF BK466.out 2; have hfz39_3 := bkF BK466.out 3) | (go_at_call 25; (with_reducible refine (spec_FactOk.calls t462 t463 t464 t465 true _ A34.out).mono ?_); rintro e w40 ⟨rfl, hb⟩; have n0_ := Zz.mk (Kd.R_below (by (with_reducible repeat (first | apply Kd.R_alloc | apply Kd.R_drewN | apply Kd.R_drew)); exact HO_3.out) hb); have n1_ := Zz.mk (bkB (g := gb466) (o := .cells #[.int .i64 t462, .int .i64 t463, .int .i64 t464, .bool t465] 30 (0, 0)) (by (with_reducible repeat (first | refine bkN ?_ _ | refine bkD ?_ | refine bkA ?_ _)); exact BK466.out) hb); have n2_ := Zz.mk (bwP (by repeat (first | (with_reducible first | exact HB.out | apply bwA | apply pwN | apply bw1 | refine bwS ?_ GE466.out) | exact HB.out)) hb); clear HO_3; clear BK466; clear HB; have HO_3 := n0_; have BK466 := n1_; have HB := n2_; clear n0_ n1_ n2_; (try clear hb); (try clear hb2); (try clear hk); (try clear hi); (try clear A34)))
         go_ret
         exact ⟨by first | rfl | (simp [*, errW_none, errW_some] <;> rfl), by repeat (first | (with_reducible first | exact HB.out | apply bwA | apply pwN | apply bw1 | refine bwS ?_ GE466.out) | exact HB.out)⟩
        ·rw [if_neg c37] at H
         have c37b0 : decide (t475 < t476) = false := decide_eq_false c37
         clear c37
         obtain rfl := Option.some.inj H
         go_wp2_with (first | ((with_reducible refine gate_callee (f := 24) rfl ?_); refine goesL_ (some 57) rfl rfl Try.func24 (by kernel_rfl) rfl #[.slice Ao12 t459.length co12] rfl (by (try simp only [List.map_toArray, List.map_cons, List.map_nil]); first | done | rfl | (simp only [List.length_drop, List.length_take]; rfl)) ?_; (with_reducible refine (spec_TableOk.calls kj7 _ _ t459 true _ ?side1 ?side2 A32.out).mono ?_); (case side1 => repeat (first | exact (Kd.R_reads' HO_3.out).2.2 | (with_reducible refine Kd.C_alloc ?_ _) | (with_reducible refine Kd.C_drewN ?_ _) | (with_reducible refine Kd.C_drew ?_))); (case side2 => exact (Kd.R_reads' HO_3.out).2.1); rintro e w41 ⟨rfl, hb⟩; refine ⟨_, rfl, ?_⟩; have n0_ := Zz.mk (Kd.R_below (by (with_reducible repeat (first | apply Kd.R_alloc | apply Kd.R_drewN | apply Kd.R_drew)); exact HO_3.out) hb); have n1_ := Zz.mk (bkB (g := gb466) (o := .cells #[.int .i64 t462, .int .i64 t463, .int .i64 t464, .bool t465] 30 (0, 0)) (by (with_reducible repeat (first | refine bkN ?_ _ | refine bkD ?_ | refine bkA ?_ _)); exact BK466.out) hb); have n2_ := Zz.mk (bwP (by repeat (first | (with_reducible first | exact HB.out | apply bwA | apply pwN | apply bw1 | refine bwS ?_ GE466.out) | exact HB.out)) hb); clear HO_3; clear BK466; clear HB; have HO_3 := n0_; have BK466 := n1_; have HB := n2_; clear n0_ n1_ n2_; (try clear hb); (try clear hb2); (try clear hk); (try clear hi); (try clear A32); have hcz42_0 : w41.cell? ⟨gb466, 0, none⟩ = some (.int .i64 t462) := (bkC BK466.out 0).trans rfl; have hcz42_1 : w41.cell? ⟨gb466, 1, none⟩ = some (.int .i64 t463) := (bkC BK466.out 1).trans rfl; have hcz42_2 : w41.cell? ⟨gb466, 2, none⟩ = some (.int .i64 t464) := (bkC BK466.out 2).trans rfl; have hcz42_3 : w41.cell? ⟨gb466, 3, none⟩ = some (.bool t465) := (bkC BK466.out 3).trans rfl; have hfz42_0 := bkF BK466.out 0; have hfz42_1 := bkF BK466.out 1; have hfz42_2 := bkF BK466.out 2; have hfz42_3 := bkF BK466.out 3) | (go_at_call 25; (with_reducible refine (spec_FactOk.calls t462 t463 t464 t465 true _ A34.out).mono ?_); rintro e w43 ⟨rfl, hb⟩; have n0_ := Zz.mk (Kd.R_below (by (with_reducible repeat (first | apply Kd.R_alloc | apply Kd.R_drewN | apply Kd.R_drew)); exact HO_3.out) hb); have n1_ := Zz.mk (bkB (g := gb466) (o := .cells #[.int .i64 t462, .int .i64 t463, .int .i64 t464, .bool t465] 30 (0, 0)) (by (with_reducible repeat (first | refine bkN ?_ _ | refine bkD ?_ | refine bkA ?_ _)); exact BK466.out) hb); have n2_ := Zz.mk (bwP (by repeat (first | (with_reducible first | exact HB.out | apply bwA | apply pwN | apply bw1 | refine bwS ?_ GE466.out) | exact HB.out)) hb); clear HO_3; clear BK466; clear HB; have HO_3 := n0_; have BK466 := n1_; have HB := n2_; clear n0_ n1_ n2_; (try clear hb); (try clear hb2); (try clear hk); (try clear hi); (try clear A34)))
         go_ret
         exact ⟨by first | rfl | (simp [*, errW_none, errW_some] <;> rfl), by repeat (first | (with_reducible first | exact HB.out | apply bwA | apply pwN | apply bw1 | refine bwS ?_ GE466.out) | exact HB.out)⟩
       ·replace c36 := Bool.eq_false_iff.mpr c36
        subst c36
        have H1 : (some (t476 == t475)) = some r := by rw [if_neg (show ¬ (false = true) by decide)] at H; exact H
        clear H
        have H := H1
        clear H1
        obtain rfl := Option.some.inj H
        go_wp2_with (first | ((with_reducible refine gate_callee (f := 24) rfl ?_); refine goesL_ (some 57) rfl rfl Try.func24 (by kernel_rfl) rfl #[.slice Ao12 t459.length co12] rfl (by (try simp only [List.map_toArray, List.map_cons, List.map_nil]); first | done | rfl | (simp only [List.length_drop, List.length_take]; rfl)) ?_; (with_reducible refine (spec_TableOk.calls kj7 _ _ t459 true _ ?side1 ?side2 A32.out).mono ?_); (case side1 => repeat (first | exact (Kd.R_reads' HO_3.out).2.2 | (with_reducible refine Kd.C_alloc ?_ _) | (with_reducible refine Kd.C_drewN ?_ _) | (with_reducible refine Kd.C_drew ?_))); (case side2 => exact (Kd.R_reads' HO_3.out).2.1); rintro e w44 ⟨rfl, hb⟩; refine ⟨_, rfl, ?_⟩; have n0_ := Zz.mk (Kd.R_below (by (with_reducible repeat (first | apply Kd.R_alloc | apply Kd.R_drewN | apply Kd.R_drew)); exact HO_3.out) hb); have n1_ := Zz.mk (bkB (g := gb466) (o := .cells #[.int .i64 t462, .int .i64 t463, .int .i64 t464, .bool t465] 30 (0, 0)) (by (with_reducible repeat (first | refine bkN ?_ _ | refine bkD ?_ | refine bkA ?_ _)); exact BK466.out) hb); have n2_ := Zz.mk (bwP (by repeat (first | (with_reducible first | exact HB.out | apply bwA | apply pwN | apply bw1 | refine bwS ?_ GE466.out) | exact HB.out)) hb); clear HO_3; clear BK466; clear HB; have HO_3 := n0_; have BK466 := n1_; have HB := n2_; clear n0_ n1_ n2_; (try clear hb); (try clear hb2); (try clear hk); (try clear hi); (try clear A32); have hcz45_0 : w44.cell? ⟨gb466, 0, none⟩ = some (.int .i64 t462) := (bkC BK466.out 0).trans rfl; have hcz45_1 : w44.cell? ⟨gb466, 1, none⟩ = some (.int .i64 t463) := (bkC BK466.out 1).trans rfl; have hcz45_2 : w44.cell? ⟨gb466, 2, none⟩ = some (.int .i64 t464) := (bkC BK466.out 2).trans rfl; have hcz45_3 : w44.cell? ⟨gb466, 3, none⟩ = some (.bool t465) := (bkC BK466.out 3).trans rfl; have hfz45_0 := bkF BK466.out 0; have hfz45_1 := bkF BK466.out 1; have hfz45_2 := bkF BK466.out 2; have hfz45_3 := bkF BK466.out 3) | (go_at_call 25; (with_reducible refine (spec_FactOk.calls t462 t463 t464 t465 true _ A34.out).mono ?_); rintro e w46 ⟨rfl, hb⟩; have n0_ := Zz.mk (Kd.R_below (by (with_reducible repeat (first | apply Kd.R_alloc | apply Kd.R_drewN | apply Kd.R_drew)); exact HO_3.out) hb); have n1_ := Zz.mk (bkB (g := gb466) (o := .cells #[.int .i64 t462, .int .i64 t463, .int .i64 t464, .bool t465] 30 (0, 0)) (by (with_reducible repeat (first | refine bkN ?_ _ | refine bkD ?_ | refine bkA ?_ _)); exact BK466.out) hb); have n2_ := Zz.mk (bwP (by repeat (first | (with_reducible first | exact HB.out | apply bwA | apply pwN | apply bw1 | refine bwS ?_ GE466.out) | exact HB.out)) hb); clear HO_3; clear BK466; clear HB; have HO_3 := n0_; have BK466 := n1_; have HB := n2_; clear n0_ n1_ n2_; (try clear hb); (try clear hb2); (try clear hk); (try clear hi); (try clear A34)))
        go_ret
        exact ⟨by first | rfl | (simp [*, errW_none, errW_some] <;> rfl), by repeat (first | (with_reducible first | exact HB.out | apply bwA | apply pwN | apply bw1 | refine bwS ?_ GE466.out) | exact HB.out)⟩
      ·replace c35 := Bool.eq_false_iff.mpr c35
       subst c35
       have H1 : (some true) = some r := by rw [if_neg (show ¬ (false = true) by decide)] at H; exact H
       clear H
       have H := H1
       clear H1
       obtain rfl := Option.some.inj H
       go_wp2_with (first | ((with_reducible refine gate_callee (f := 24) rfl ?_); refine goesL_ (some 57) rfl rfl Try.func24 (by kernel_rfl) rfl #[.slice Ao12 t459.length co12] rfl (by (try simp only [List.map_toArray, List.map_cons, List.map_nil]); first | done | rfl | (simp only [List.length_drop, List.length_take]; rfl)) ?_; (with_reducible refine (spec_TableOk.calls kj7 _ _ t459 true _ ?side1 ?side2 A32.out).mono ?_); (case side1 => repeat (first | exact (Kd.R_reads' HO_3.out).2.2 | (with_reducible refine Kd.C_alloc ?_ _) | (with_reducible refine Kd.C_drewN ?_ _) | (with_reducible refine Kd.C_drew ?_))); (case side2 => exact (Kd.R_reads' HO_3.out).2.1); rintro e w47 ⟨rfl, hb⟩; refine ⟨_, rfl, ?_⟩; have n0_ := Zz.mk (Kd.R_below (by (with_reducible repeat (first | apply Kd.R_alloc | apply Kd.R_drewN | apply Kd.R_drew)); exact HO_3.out) hb); have n1_ := Zz.mk (bkB (g := gb466) (o := .cells #[.int .i64 t462, .int .i64 t463, .int .i64 t464, .bool t465] 30 (0, 0)) (by (with_reducible repeat (first | refine bkN ?_ _ | refine bkD ?_ | refine bkA ?_ _)); exact BK466.out) hb); have n2_ := Zz.mk (bwP (by repeat (first | (with_reducible first | exact HB.out | apply bwA | apply pwN | apply bw1 | refine bwS ?_ GE466.out) | exact HB.out)) hb); clear HO_3; clear BK466; clear HB; have HO_3 := n0_; have BK466 := n1_; have HB := n2_; clear n0_ n1_ n2_; (try clear hb); (try clear hb2); (try clear hk); (try clear hi); (try clear A32); have hcz48_0 : w47.cell? ⟨gb466, 0, none⟩ = some (.int .i64 t462) := (bkC BK466.out 0).trans rfl; have hcz48_1 : w47.cell? ⟨gb466, 1, none⟩ = some (.int .i64 t463) := (bkC BK466.out 1).trans rfl; have hcz48_2 : w47.cell? ⟨gb466, 2, none⟩ = some (.int .i64 t464) := (bkC BK466.out 2).trans rfl; have hcz48_3 : w47.cell? ⟨gb466, 3, none⟩ = some (.bool t465) := (bkC BK466.out 3).trans rfl; have hfz48_0 := bkF BK466.out 0; have hfz48_1 := bkF BK466.out 1; have hfz48_2 := bkF BK466.out 2; have hfz48_3 := bkF BK466.out 3) | (go_at_call 25; (with_reducible refine (spec_FactOk.calls t462 t463 t464 t465 false _ A34.out).mono ?_); rintro e w49 ⟨rfl, hb⟩; have n0_ := Zz.mk (Kd.R_below (by (with_reducible repeat (first | apply Kd.R_alloc | apply Kd.R_drewN | apply Kd.R_drew)); exact HO_3.out) hb); have n1_ := Zz.mk (bkB (g := gb466) (o := .cells #[.int .i64 t462, .int .i64 t463, .int .i64 t464, .bool t465] 30 (0, 0)) (by (with_reducible repeat (first | refine bkN ?_ _ | refine bkD ?_ | refine bkA ?_ _)); exact BK466.out) hb); have n2_ := Zz.mk (bwP (by repeat (first | (with_reducible first | exact HB.out | apply bwA | apply pwN | apply bw1 | refine bwS ?_ GE466.out) | exact HB.out)) hb); clear HO_3; clear BK466; clear HB; have HO_3 := n0_; have BK466 := n1_; have HB := n2_; clear n0_ n1_ n2_; (try clear hb); (try clear hb2); (try clear hk); (try clear hi); (try clear A34)))
       go_ret
       exact ⟨by first | rfl | (simp [*, errW_none, errW_some] <;> rfl), by repeat (first | (with_reducible first | exact HB.out | apply bwA | apply pwN | apply bw1 | refine bwS ?_ GE466.out) | exact HB.out)⟩
     ·replace c33 := Bool.eq_false_iff.mpr c33
      subst c33
      have H1 : (some true) = some r := by rw [if_neg (show ¬ (false = true) by decide)] at H; exact H
      clear H
      have H := H1
      clear H1
      obtain rfl := Option.some.inj H
      go_wp2_with (first | ((with_reducible refine gate_callee (f := 24) rfl ?_); refine goesL_ (some 57) rfl rfl Try.func24 (by kernel_rfl) rfl #[.slice Ao12 t459.length co12] rfl (by (try simp only [List.map_toArray, List.map_cons, List.map_nil]); first | done | rfl | (simp only [List.length_drop, List.length_take]; rfl)) ?_; (with_reducible refine (spec_TableOk.calls kj7 _ _ t459 false _ ?side1 ?side2 A32.out).mono ?_); (case side1 => repeat (first | exact (Kd.R_reads' HO_3.out).2.2 | (with_reducible refine Kd.C_alloc ?_ _) | (with_reducible refine Kd.C_drewN ?_ _) | (with_reducible refine Kd.C_drew ?_))); (case side2 => exact (Kd.R_reads' HO_3.out).2.1); rintro e w50 ⟨rfl, hb⟩; refine ⟨_, rfl, ?_⟩; have n0_ := Zz.mk (Kd.R_below (by (with_reducible repeat (first | apply Kd.R_alloc | apply Kd.R_drewN | apply Kd.R_drew)); exact HO_3.out) hb); have n1_ := Zz.mk (bkB (g := gb466) (o := .cells #[.int .i64 t462, .int .i64 t463, .int .i64 t464, .bool t465] 30 (0, 0)) (by (with_reducible repeat (first | refine bkN ?_ _ | refine bkD ?_ | refine bkA ?_ _)); exact BK466.out) hb); have n2_ := Zz.mk (bwP (by repeat (first | (with_reducible first | exact HB.out | apply bwA | apply pwN | apply bw1 | refine bwS ?_ GE466.out) | exact HB.out)) hb); clear HO_3; clear BK466; clear HB; have HO_3 := n0_; have BK466 := n1_; have HB := n2_; clear n0_ n1_ n2_; (try clear hb); (try clear hb2); (try clear hk); (try clear hi); (try clear A32)))
      go_ret
      exact ⟨by first | rfl | (simp [*, errW_none, errW_some] <;> rfl), by repeat (first | (with_reducible first | exact HB.out | apply bwA | apply pwN | apply bw1 | refine bwS ?_ GE466.out) | exact HB.out)⟩

/-- THE ONE PURE STATEMENT of laws_FnTableVersion: yours. -/
def laws_FnTableVersion.Pure : Prop := ∀ (l0 : List Int), l0.length ≤ maxLen → l0.length * 1 ≤ 140737488351232 → (∀ x ∈ l0, (Lit.int .u8 x).wf = true) → ∃ k, laws_FnTableVersion.f k l0 = some true
theorem laws_FnTableVersion.walk (P : laws_FnTableVersion.Pure) (a0 : Option Addr) (len0 cap0 : Nat) (z0 : List Int) (w : World) (w0 : (a0 = none ∧ len0 = 0 ∧ cap0 = 0 ∧ z0 = []) ∨ ∃ x, a0 = some x ∧ len0 ≤ cap0 ∧ cap0 ≤ maxLen ∧ z0.length = cap0 ∧ (∀ i, i < z0.length → w.cell? (x.add i) = some (.int .u8 (z0.getD i 0))) ∧ ∀ n ∈ z0, (Lit.int .u8 n).wf = true) (y0 : len0 * 1 ≤ 140737488351232) :
  Calls Try.prog 5 #[.slice a0 len0 cap0] w fun e w' => e = .returned (.bool true) ∧ Below w.heap.size w w' := by
 obtain ⟨l0, rfl, hr0, hm0, hw0, hc0⟩ := ReadsInt.ofRowC w0
 obtain ⟨k, h⟩ := P l0 hm0 y0 hw0
 refine (laws_FnTableVersion.calls k _ _ l0 true w (Kd.C_of_reads (d := (0 : Int)) (h1 := fun _ => rfl) hr0) hc0 h).mono ?_
 rintro e w' ⟨rfl, hd⟩
 exact ⟨rfl, hd⟩

end Go.Proofs.Ytjaihhgkcdnhnaa.PFnTableVersion
