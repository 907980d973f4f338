/- Functions of the program as plain functions, and that each call does what they tell. Conditions: none. -/
import Derived.Test.YtbibieonaceolaaPFnCastAllx0
import Derived.Test.YtbibieonaceolaaPFnCastAllx4
import Derived.Test.YtbibieonaceolaaPFnCastAllx5
import Derived.Test.YtbibieonaceolaaPFnCastAllx7
import Derived.Test.YtbibieonaceolaaPFnCastAllx11
import Derived.Test.YtbibieonaceolaaPFnCastAllx17
namespace Go.Proofs.Ytbibieonaceolaa.PFnCastAll
open Go.RowKit Go.Proofs.YtbibieonaceolaaW.PrintWords Go.Proofs.YtbibieonaceolaaW.PrintLast Go.Proofs.YtbibieonaceolaaW.PrintMore
attribute [local go_sem] max2_int min2_int max_two min_two max_three min_three max_four min_four
set_option linter.unusedVariables false
set_option linter.unusedSimpArgs false

/-! ### laws_FnCastAll: function 4 -/
mutual
def laws_FnCastAll.j0 : Nat → List (S42) → Int → List (S40) → Bool → Option (Bool)
 | 0, _, _, _, _ => none
 | k + 1, x3, x4, x5, x52 => if x52 = true then (none) else ((spec_CastOk.f k x3).bind fun t432 => (if t432 = true then (laws_FnCastAll.j1 k x3 x4 x5 (decide (x4 < 1))) else (laws_FnCastAll.j1 k x3 x4 x5 true)))
def laws_FnCastAll.j1 : Nat → List (S42) → Int → List (S40) → Bool → Option (Bool)
 | 0, _, _, _, _ => none
 | k + 1, x3, x4, x5, x59 => if x59 = true then (some ((x5.length : Int) == 0)) else (if 8 ≤ 35184372088832 then ((some (([] : List (S42)) : List (S42))).bind fun y436 => (if y436.length + x3.length < 3518437208883 then (laws_FnCastAll.l0 k x3 x4 (List.replicate 8 0) (y436 ++ x3) 0) else (none))) else (none))
def laws_FnCastAll.l0 : Nat → List (S42) → Int → List Int → List (S42) → Int → Option (Bool)
 | 0, _, _, _, _, _ => none
 | k + 1, x3, x4, x9, x10, x11 => if x11 < 40 then ((impl_CastTake.f k x10 x4).bind fun bt442 => (laws_FnCastAll.l1 k x3 x4 x9 x11 bt442.1 bt442.2 0)) else (laws_FnCastAll.l2 k x3 x9 x10 0)
def laws_FnCastAll.l1 : Nat → List (S42) → Int → List Int → Int → List (S40) → List (S42) → Int → Option (Bool)
 | 0, _, _, _, _, _, _, _ => none
 | k + 1, x3, x4, x9, x11, x12, x13, x14 => if x14 < (x12.length : Int) then (if 0 ≤ x14 then (if 0 ≤ ((rd_T40 x12 x14).f0) then (if ((rd_T40 x12 x14).f0) < (x9.length : Int) then (laws_FnCastAll.l1 k x3 x4 (x9.set (((rd_T40 x12 x14).f0) : Int).toNat (wrap64 ((rd x9 ((rd_T40 x12 x14).f0)) + 1))) x11 x12 x13 (wrap64 (x14 + 1))) else (none)) else (none)) else (none)) else (laws_FnCastAll.l0 k x3 x4 x9 x13 (wrap64 (x11 + 1)))
def laws_FnCastAll.l2 : Nat → List (S42) → List Int → List (S42) → Int → Option (Bool)
 | 0, _, _, _, _ => none
 | k + 1, x3, x9, x10, x15 => if x15 < (x3.length : Int) then (if 0 ≤ x15 then (if 0 ≤ ((rd_T42 x3 x15).f0.f0) then (if ((rd_T42 x3 x15).f0.f0) < (x9.length : Int) then (if (rd x9 ((rd_T42 x3 x15).f0.f0)) = ((rd_T42 x3 x15).f1) then (laws_FnCastAll.l2 k x3 x9 x10 (wrap64 (x15 + 1))) else (none)) else (none)) else (none)) else (none)) else (some ((x10.length : Int) == 0))
end
def laws_FnCastAll.f (k : Nat) (l0 : List Int) : Option (Bool) := if (l0.length : Int) > 1048576 then (some true) else ((spec_DrawCastTake.f k l0).bind fun bt412 => ((impl_CastTake.f k bt412.1 bt412.2).bind fun bt416 => ((spec_CastTake.f k bt412.1 bt412.2).bind fun bt422 => ((laws_lhFacts.f k bt416.1 bt422.1).bind fun t428 => (if t428 = true then ((laws_lhItems.f k bt416.2 bt422.2).bind fun t429 => (if t429 = true then ((impl_CastOk.f k bt412.1).bind fun t430 => ((spec_CastOk.f k bt412.1).bind fun t431 => (laws_FnCastAll.j0 k bt412.1 bt412.2 bt416.1 (t430 != t431)))) else (laws_FnCastAll.j0 k bt412.1 bt412.2 bt416.1 true))) else (laws_FnCastAll.j0 k bt412.1 bt412.2 bt416.1 true))))))
theorem laws_FnCastAll.mono_l : ∀ k, (∀ y0 y1 y2 y3, LeO (laws_FnCastAll.j0 k y0 y1 y2 y3) (laws_FnCastAll.j0 (k + 1) y0 y1 y2 y3)) ∧ (∀ y0 y1 y2 y3, LeO (laws_FnCastAll.j1 k y0 y1 y2 y3) (laws_FnCastAll.j1 (k + 1) y0 y1 y2 y3)) ∧ (∀ y0 y1 y2 y3 y4, LeO (laws_FnCastAll.l0 k y0 y1 y2 y3 y4) (laws_FnCastAll.l0 (k + 1) y0 y1 y2 y3 y4)) ∧ (∀ y0 y1 y2 y3 y4 y5 y6, LeO (laws_FnCastAll.l1 k y0 y1 y2 y3 y4 y5 y6) (laws_FnCastAll.l1 (k + 1) y0 y1 y2 y3 y4 y5 y6)) ∧ (∀ y0 y1 y2 y3, LeO (laws_FnCastAll.l2 k y0 y1 y2 y3) (laws_FnCastAll.l2 (k + 1) y0 y1 y2 y3))
 | 0 => ⟨fun _ _ _ _ r h => by simp [laws_FnCastAll.j0] at h, fun _ _ _ _ r h => by simp [laws_FnCastAll.j1] at h, fun _ _ _ _ _ r h => by simp [laws_FnCastAll.l0] at h, fun _ _ _ _ _ _ _ r h => by simp [laws_FnCastAll.l1] at h, fun _ _ _ _ r h => by simp [laws_FnCastAll.l2] at h⟩
 | k + 1 => by
  obtain ⟨ih0, ih1, ih2, ih3, ih4⟩ := laws_FnCastAll.mono_l k; refine ⟨?_, ?_, ?_, ?_, ?_⟩
  ·intro y0 y1 y2 y3
   unfold laws_FnCastAll.j0; repeat' first
   | (with_reducible exact ih0 _ _ _ _)
   | (with_reducible exact ih1 _ _ _ _)
   | (with_reducible exact ih2 _ _ _ _ _)
   | (with_reducible exact ih3 _ _ _ _ _ _ _)
   | (with_reducible exact ih4 _ _ _ _)
   | (with_reducible exact impl_CastOk.mono _ _)
   | (with_reducible exact impl_CastTake.mono _ _ _)
   | (with_reducible exact laws_lhFacts.mono _ _ _)
   | (with_reducible exact laws_lhItems.mono _ _ _)
   | (with_reducible exact spec_CastOk.mono _ _)
   | (with_reducible exact spec_CastTake.mono _ _ _)
   | (with_reducible exact spec_DrawCastTake.mono _ _)
   | (with_reducible exact LeO.refl _)
   | (with_reducible exact LeO.none _)
   | (with_reducible refine LeO.ite ?_ ?_)
   | (with_reducible refine LeO.bind ?_ (fun _ => ?_))
   | exact ih0 _ _ _ _
   | exact ih1 _ _ _ _
   | exact ih2 _ _ _ _ _
   | exact ih3 _ _ _ _ _ _ _
   | exact ih4 _ _ _ _
   | exact impl_CastOk.mono _ _
   | exact impl_CastTake.mono _ _ _
   | exact laws_lhFacts.mono _ _ _
   | exact laws_lhItems.mono _ _ _
   | exact spec_CastOk.mono _ _
   | exact spec_CastTake.mono _ _ _
   | exact spec_DrawCastTake.mono _ _
   | exact LeO.none _
   | refine LeO.ite ?_ ?_
   | refine LeO.bind ?_ (fun _ => ?_)
  ·intro y0 y1 y2 y3
   unfold laws_FnCastAll.j1; repeat' first
   | (with_reducible exact ih0 _ _ _ _)
   | (with_reducible exact ih1 _ _ _ _)
   | (with_reducible exact ih2 _ _ _ _ _)
   | (with_reducible exact ih3 _ _ _ _ _ _ _)
   | (with_reducible exact ih4 _ _ _ _)
   | (with_reducible exact impl_CastOk.mono _ _)
   | (with_reducible exact impl_CastTake.mono _ _ _)
   | (with_reducible exact laws_lhFacts.mono _ _ _)
   | (with_reducible exact laws_lhItems.mono _ _ _)
   | (with_reducible exact spec_CastOk.mono _ _)
   | (with_reducible exact spec_CastTake.mono _ _ _)
   | (with_reducible exact spec_DrawCastTake.mono _ _)
   | (with_reducible exact LeO.refl _)
   | (with_reducible exact LeO.none _)
   | (with_reducible refine LeO.ite ?_ ?_)
   | (with_reducible refine LeO.bind ?_ (fun _ => ?_))
   | exact ih0 _ _ _ _
   | exact ih1 _ _ _ _
   | exact ih2 _ _ _ _ _
   | exact ih3 _ _ _ _ _ _ _
   | exact ih4 _ _ _ _
   | exact impl_CastOk.mono _ _
   | exact impl_CastTake.mono _ _ _
   | exact laws_lhFacts.mono _ _ _
   | exact laws_lhItems.mono _ _ _
   | exact spec_CastOk.mono _ _
   | exact spec_CastTake.mono _ _ _
   | exact spec_DrawCastTake.mono _ _
   | exact LeO.none _
   | refine LeO.ite ?_ ?_
   | refine LeO.bind ?_ (fun _ => ?_)
  ·intro y0 y1 y2 y3 y4
   unfold laws_FnCastAll.l0; repeat' first
   | (with_reducible exact ih0 _ _ _ _)
   | (with_reducible exact ih1 _ _ _ _)
   | (with_reducible exact ih2 _ _ _ _ _)
   | (with_reducible exact ih3 _ _ _ _ _ _ _)
   | (with_reducible exact ih4 _ _ _ _)
   | (with_reducible exact impl_CastOk.mono _ _)
   | (with_reducible exact impl_CastTake.mono _ _ _)
   | (with_reducible exact laws_lhFacts.mono _ _ _)
   | (with_reducible exact laws_lhItems.mono _ _ _)
   | (with_reducible exact spec_CastOk.mono _ _)
   | (with_reducible exact spec_CastTake.mono _ _ _)
   | (with_reducible exact spec_DrawCastTake.mono _ _)
   | (with_reducible exact LeO.refl _)
   | (with_reducible exact LeO.none _)
   | (with_reducible refine LeO.ite ?_ ?_)
   | (with_reducible refine LeO.bind ?_ (fun _ => ?_))
   | exact ih0 _ _ _ _
   | exact ih1 _ _ _ _
   | exact ih2 _ _ _ _ _
   | exact ih3 _ _ _ _ _ _ _
   | exact ih4 _ _ _ _
   | exact impl_CastOk.mono _ _
   | exact impl_CastTake.mono _ _ _
   | exact laws_lhFacts.mono _ _ _
   | exact laws_lhItems.mono _ _ _
   | exact spec_CastOk.mono _ _
   | exact spec_CastTake.mono _ _ _
   | exact spec_DrawCastTake.mono _ _
   | exact LeO.none _
   | refine LeO.ite ?_ ?_
   | refine LeO.bind ?_ (fun _ => ?_)
  ·intro y0 y1 y2 y3 y4 y5 y6
   unfold laws_FnCastAll.l1; repeat' first
   | (with_reducible exact ih0 _ _ _ _)
   | (with_reducible exact ih1 _ _ _ _)
   | (with_reducible exact ih2 _ _ _ _ _)
   | (with_reducible exact ih3 _ _ _ _ _ _ _)
   | (with_reducible exact ih4 _ _ _ _)
   | (with_reducible exact impl_CastOk.mono _ _)
   | (with_reducible exact impl_CastTake.mono _ _ _)
   | (with_reducible exact laws_lhFacts.mono _ _ _)
   | (with_reducible exact laws_lhItems.mono _ _ _)
   | (with_reducible exact spec_CastOk.mono _ _)
   | (with_reducible exact spec_CastTake.mono _ _ _)
   | (with_reducible exact spec_DrawCastTake.mono _ _)
   | (with_reducible exact LeO.refl _)
   | (with_reducible exact LeO.none _)
   | (with_reducible refine LeO.ite ?_ ?_)
   | (with_reducible refine LeO.bind ?_ (fun _ => ?_))
   | exact ih0 _ _ _ _
   | exact ih1 _ _ _ _
   | exact ih2 _ _ _ _ _
   | exact ih3 _ _ _ _ _ _ _
   | exact ih4 _ _ _ _
   | exact impl_CastOk.mono _ _
   | exact impl_CastTake.mono _ _ _
   | exact laws_lhFacts.mono _ _ _
   | exact laws_lhItems.mono _ _ _
   | exact spec_CastOk.mono _ _
   | exact spec_CastTake.mono _ _ _
   | exact spec_DrawCastTake.mono _ _
   | exact LeO.none _
   | refine LeO.ite ?_ ?_
   | refine LeO.bind ?_ (fun _ => ?_)
  ·intro y0 y1 y2 y3
   unfold laws_FnCastAll.l2; repeat' first
   | (with_reducible exact ih0 _ _ _ _)
   | (with_reducible exact ih1 _ _ _ _)
   | (with_reducible exact ih2 _ _ _ _ _)
   | (with_reducible exact ih3 _ _ _ _ _ _ _)
   | (with_reducible exact ih4 _ _ _ _)
   | (with_reducible exact impl_CastOk.mono _ _)
   | (with_reducible exact impl_CastTake.mono _ _ _)
   | (with_reducible exact laws_lhFacts.mono _ _ _)
   | (with_reducible exact laws_lhItems.mono _ _ _)
   | (with_reducible exact spec_CastOk.mono _ _)
   | (with_reducible exact spec_CastTake.mono _ _ _)
   | (with_reducible exact spec_DrawCastTake.mono _ _)
   | (with_reducible exact LeO.refl _)
   | (with_reducible exact LeO.none _)
   | (with_reducible refine LeO.ite ?_ ?_)
   | (with_reducible refine LeO.bind ?_ (fun _ => ?_))
   | exact ih0 _ _ _ _
   | exact ih1 _ _ _ _
   | exact ih2 _ _ _ _ _
   | exact ih3 _ _ _ _ _ _ _
   | exact ih4 _ _ _ _
   | exact impl_CastOk.mono _ _
   | exact impl_CastTake.mono _ _ _
   | exact laws_lhFacts.mono _ _ _
   | exact laws_lhItems.mono _ _ _
   | exact spec_CastOk.mono _ _
   | exact spec_CastTake.mono _ _ _
   | exact spec_DrawCastTake.mono _ _
   | exact LeO.none _
   | refine LeO.ite ?_ ?_
   | refine LeO.bind ?_ (fun _ => ?_)
theorem laws_FnCastAll.mono : ∀ a0 k, LeO (laws_FnCastAll.f k a0) (laws_FnCastAll.f (k + 1) a0) := by
 intro a0 k; obtain ⟨ih0, ih1, ih2, ih3, ih4⟩ := laws_FnCastAll.mono_l k; unfold laws_FnCastAll.f
 repeat' first
   | (with_reducible exact ih0 _ _ _ _)
   | (with_reducible exact ih1 _ _ _ _)
   | (with_reducible exact ih2 _ _ _ _ _)
   | (with_reducible exact ih3 _ _ _ _ _ _ _)
   | (with_reducible exact ih4 _ _ _ _)
   | (with_reducible exact impl_CastOk.mono _ _)
   | (with_reducible exact impl_CastTake.mono _ _ _)
   | (with_reducible exact laws_lhFacts.mono _ _ _)
   | (with_reducible exact laws_lhItems.mono _ _ _)
   | (with_reducible exact spec_CastOk.mono _ _)
   | (with_reducible exact spec_CastTake.mono _ _ _)
   | (with_reducible exact spec_DrawCastTake.mono _ _)
   | (with_reducible exact LeO.refl _)
   | (with_reducible exact LeO.none _)
   | (with_reducible refine LeO.ite ?_ ?_)
   | (with_reducible refine LeO.bind ?_ (fun _ => ?_))
   | exact ih0 _ _ _ _
   | exact ih1 _ _ _ _
   | exact ih2 _ _ _ _ _
   | exact ih3 _ _ _ _ _ _ _
   | exact ih4 _ _ _ _
   | exact impl_CastOk.mono _ _
   | exact impl_CastTake.mono _ _ _
   | exact laws_lhFacts.mono _ _ _
   | exact laws_lhItems.mono _ _ _
   | exact spec_CastOk.mono _ _
   | exact spec_CastTake.mono _ _ _
   | exact spec_DrawCastTake.mono _ _
   | exact LeO.none _
   | refine LeO.ite ?_ ?_
   | refine LeO.bind ?_ (fun _ => ?_)
def laws_FnCastAll.T19 : Bool × List (List Nat × List Nat) := (true, [([], []), ([], []), ([], []), ([1, 2], [1, 2]), ([3], [3]), ([4], [4]), ([], []), ([], []), ([], []), ([7, 8], [7, 8]), ([9], [9]), ([10], [10]), ([6, 11], [6, 11]), ([12], [12]), ([13], [13]), ([0, 5, 0, 1, 2, 3, 4, 5, 6, 7, 8, 9, 10, 11, 12, 13, 14], [0, 5]), ([15, 14, 0, 1, 2, 3, 4, 5, 6, 7, 8, 9, 10, 11, 12, 13, 14], [14, 15])])
def laws_FnCastAll.B19 : List Nat := [0, 0, 0, 6, 14, 30, 0, 0, 0, 384, 896, 1920, 4032, 8128, 16320, 32767, 65535]
theorem laws_FnCastAll.tab19 : rtab .any (opsOf Try.f4 19) = laws_FnCastAll.T19 := by kernel_rfl
theorem laws_FnCastAll.bits19 : waitsOk laws_FnCastAll.T19.2 laws_FnCastAll.B19 = true := by kernel_rfl
def laws_FnCastAll.T24 : Bool × List (List Nat × List Nat) := (true, [([], []), ([], []), ([], []), ([1, 2], [1, 2]), ([3], [3]), ([4], [4]), ([5], [5]), ([0, 6], [0, 6]), ([7], [7]), ([], []), ([], []), ([9, 10], [9, 10]), ([11], [11]), ([12], [12]), ([8, 13], [8, 13])])
def laws_FnCastAll.B24 : List Nat := [0, 0, 0, 6, 14, 30, 62, 127, 255, 0, 0, 1536, 3584, 7680, 16383]
theorem laws_FnCastAll.tab24 : rtab .any (opsOf Try.f4 24) = laws_FnCastAll.T24 := by kernel_rfl
theorem laws_FnCastAll.bits24 : waitsOk laws_FnCastAll.T24.2 laws_FnCastAll.B24 = true := by kernel_rfl
set_option maxHeartbeats 8000000 in
set_option maxRecDepth 100000 in
theorem laws_FnCastAll.calls (k : Nat) (A0 : Option Addr) (c0 : Nat) (l0 : List Int) (r : Bool) (w : World) (hr0 : Kd.C (Kd.int .u8) w A0 l0.length l0) (hc0 : l0.length ≤ c0) (h : laws_FnCastAll.f k l0 = some r) :
  Calls Try.prog 4 #[.slice A0 l0.length c0] w fun e w' => e = .returned (.bool r) ∧ Below w.heap.size w w' := by
 have HR0 := Zz.mk hr0; have HC0 := Zz.mk hc0; clear hr0 hc0; have HB := Zz.mk (Below.refl w.heap.size w); have H : (if (l0.length : Int) > 1048576 then (some true) else ((spec_DrawCastTake.f k l0).bind fun bt412 => ((impl_CastTake.f k bt412.1 bt412.2).bind fun bt416 => ((spec_CastTake.f k bt412.1 bt412.2).bind fun bt422 => ((laws_lhFacts.f k bt416.1 bt422.1).bind fun t428 => (if t428 = true then ((laws_lhItems.f k bt416.2 bt422.2).bind fun t429 => (if t429 = true then ((impl_CastOk.f k bt412.1).bind fun t430 => ((spec_CastOk.f k bt412.1).bind fun t431 => (laws_FnCastAll.j0 k bt412.1 bt412.2 bt416.1 (t430 != t431)))) else (laws_FnCastAll.j0 k bt412.1 bt412.2 bt416.1 true))) else (laws_FnCastAll.j0 k bt412.1 bt412.2 bt416.1 true))))))) = some r := h; clear h; by_cases c2 : (l0.length : Int) > 1048576
 ·rw [if_pos c2] at H
  have c2b0 : decide (1048576 < (l0.length : Int)) = true := decide_eq_true c2; have c2b1 : decide (1048576 < l0.length) = true := decide_eq_true (by omega); clear c2; obtain rfl := Option.some.inj H; go_enter Try.func4, Try.ntmps4; go_wp2
  go_ret
  exact ⟨by first | rfl | (simp [eN, eS] <;> rfl) | (simp [*, eN, eS] <;> rfl), by repeat (first | (with_reducible first | exact HB.out | apply bwA | apply pwN | apply bw1) | exact HB.out)⟩
 ·rw [if_neg c2] at H
  have c2b0 : decide (1048576 < (l0.length : Int)) = false := decide_eq_false c2; have c2b1 : decide (1048576 < l0.length) = false := decide_eq_false (by omega); clear c2; replace H := Option.bind_eq_some_iff.mp H; obtain ⟨⟨t412, t413⟩, A30, H⟩ := H; replace H : ((impl_CastTake.f k t412 t413).bind fun bt416 => ((spec_CastTake.f k t412 t413).bind fun bt422 => ((laws_lhFacts.f k bt416.1 bt422.1).bind fun t428 => (if t428 = true then ((laws_lhItems.f k bt416.2 bt422.2).bind fun t429 => (if t429 = true then ((impl_CastOk.f k t412).bind fun t430 => ((spec_CastOk.f k t412).bind fun t431 => (laws_FnCastAll.j0 k t412 t413 bt416.1 (t430 != t431)))) else (laws_FnCastAll.j0 k t412 t413 bt416.1 true))) else (laws_FnCastAll.j0 k t412 t413 bt416.1 true))))) = some r := H; have A3 := Zz.mk A30; clear A30; replace H := Option.bind_eq_some_iff.mp H; obtain ⟨⟨t416, t417⟩, A40, H⟩ := H; replace H : ((spec_CastTake.f k t412 t413).bind fun bt422 => ((laws_lhFacts.f k t416 bt422.1).bind fun t428 => (if t428 = true then ((laws_lhItems.f k t417 bt422.2).bind fun t429 => (if t429 = true then ((impl_CastOk.f k t412).bind fun t430 => ((spec_CastOk.f k t412).bind fun t431 => (laws_FnCastAll.j0 k t412 t413 t416 (t430 != t431)))) else (laws_FnCastAll.j0 k t412 t413 t416 true))) else (laws_FnCastAll.j0 k t412 t413 t416 true)))) = some r := H; have A4 := Zz.mk A40; clear A40; replace H := Option.bind_eq_some_iff.mp H; obtain ⟨⟨t422, t423⟩, A50, H⟩ := H; replace H : ((laws_lhFacts.f k t416 t422).bind fun t428 => (if t428 = true then ((laws_lhItems.f k t417 t423).bind fun t429 => (if t429 = true then ((impl_CastOk.f k t412).bind fun t430 => ((spec_CastOk.f k t412).bind fun t431 => (laws_FnCastAll.j0 k t412 t413 t416 (t430 != t431)))) else (laws_FnCastAll.j0 k t412 t413 t416 true))) else (laws_FnCastAll.j0 k t412 t413 t416 true))) = some r := H; have A5 := Zz.mk A50; clear A50; have HC6 := Zz.mk H; clear H; go_enter Try.func4, Try.ntmps4; go_upto_region 6 with (first | ((with_reducible refine gate_callee (f := 16) rfl ?_); refine goesL_ (some 21) rfl rfl Try.func16 (by kernel_rfl) rfl #[.slice A0 l0.length c0] rfl (by (try simp only [List.map_toArray, List.map_cons, List.map_nil]); first | done | rfl | (simp only [List.length_drop, List.length_take]; rfl)) ?_; (with_reducible refine (spec_DrawCastTake.calls k _ _ l0 t412 t413 _ ?side1 ?side2 A3.out).mono ?_); (case side1 => repeat (first | exact HR0.out | (with_reducible refine Kd.CA ?_ _) | (with_reducible refine Kd.CN ?_ _) | (with_reducible refine Kd.CD ?_))); (case side2 => exact HC0.out); rintro e w7 ⟨v414, rfl, ho0, hb⟩; refine ⟨_, rfl, ?_⟩; have n0_ := Zz.mk (Kd.R_lower ho0 (bwZ (by repeat (first | (with_reducible first | exact HB.out | apply bwA | apply pwN | apply bw1) | exact HB.out)))); have n1_ := Zz.mk (bwP (by repeat (first | (with_reducible first | exact HB.out | apply bwA | apply pwN | apply bw1) | exact HB.out)) hb); clear HB; have HO415 := n0_; have HB := n1_; clear n0_ n1_; (try clear hb); (try clear ho0); (try clear A3); obtain ⟨Ao8, co8, eo8⟩ := Kd.R_slice HO415.out; subst eo8) | ((with_reducible refine gate_callee (f := 9) rfl ?_); refine goesL_ (some 27) rfl rfl Try.func9 (by kernel_rfl) rfl #[.slice Ao8 t412.length co8, .int .i64 t413] rfl (by (try simp only [List.map_toArray, List.map_cons, List.map_nil]); first | done | rfl | (simp only [List.length_drop, List.length_take]; rfl)) ?_; (with_reducible refine (impl_CastTake.calls k _ _ t412 t413 t416 t417 _ ?side1 ?side2 A4.out).mono ?_); (case side1 => repeat (first | exact (Kd.R_reads' HO415.out).2.2 | (with_reducible refine Kd.CA ?_ _) | (with_reducible refine Kd.CN ?_ _) | (with_reducible refine Kd.CD ?_))); (case side2 => exact (Kd.R_reads' HO415.out).2.1); rintro e w9 ⟨v418, v420, rfl, ho0, ho1, hb⟩; refine ⟨_, rfl, ?_⟩; have n0_ := Zz.mk (Kd.R_elder' (by (with_reducible repeat (first | apply Kd.RA | apply Kd.RN | apply Kd.RD)); exact HO415.out) (Kd.R_base ho1) hb); have n1_ := Zz.mk (Kd.R_lower ho0 (bwZ (by repeat (first | (with_reducible first | exact HB.out | apply bwA | apply pwN | apply bw1) | exact HB.out)))); have n2_ := Zz.mk (Kd.R_lower (Kd.R_new' ho1 (Kd.R_lt (by (with_reducible repeat (first | apply Kd.RA | apply Kd.RN | apply Kd.RD)); exact HO415.out))) (bwZ (by repeat (first | (with_reducible first | exact HB.out | apply bwA | apply pwN | apply bw1) | exact HB.out)))); have n3_ := Zz.mk (bwP (by repeat (first | (with_reducible first | exact HB.out | apply bwA | apply pwN | apply bw1) | exact HB.out)) hb); clear HO415; clear HB; have HO415 := n0_; have HO419 := n1_; have HO421 := n2_; have HB := n3_; clear n0_ n1_ n2_ n3_; (try clear hb); (try clear ho0); (try clear ho1); (try clear A4)) | ((with_reducible refine gate_callee (f := 7) rfl ?_); refine goesL_ (some 33) rfl rfl Try.func7 (by kernel_rfl) rfl #[.slice Ao8 t412.length co8, .int .i64 t413] rfl (by (try simp only [List.map_toArray, List.map_cons, List.map_nil]); first | done | rfl | (simp only [List.length_drop, List.length_take]; rfl)) ?_; (with_reducible refine (spec_CastTake.calls k _ _ t412 t413 t422 t423 _ ?side1 ?side2 A5.out).mono ?_); (case side1 => repeat (first | exact (Kd.R_reads' HO415.out).2.2 | (with_reducible refine Kd.CA ?_ _) | (with_reducible refine Kd.CN ?_ _) | (with_reducible refine Kd.CD ?_))); (case side2 => exact (Kd.R_reads' HO415.out).2.1); rintro e w10 ⟨v424, v426, rfl, ho0, ho1, hb⟩; refine ⟨_, rfl, ?_⟩; have n0_ := Zz.mk (Kd.R_elder' (by (with_reducible repeat (first | apply Kd.RA | apply Kd.RN | apply Kd.RD)); exact HO415.out) (Kd.R_base ho1) hb); have n1_ := Zz.mk (Kd.R_elder' (by (with_reducible repeat (first | apply Kd.RA | apply Kd.RN | apply Kd.RD)); exact HO419.out) (Kd.R_base ho0) hb); have n2_ := Zz.mk (Kd.R_elder' (by (with_reducible repeat (first | apply Kd.RA | apply Kd.RN | apply Kd.RD)); exact HO421.out) (Kd.R_base ho1) hb); have n3_ := Zz.mk (Kd.R_lower (Kd.R_new' ho0 (Kd.R_lt (by (with_reducible repeat (first | apply Kd.RA | apply Kd.RN | apply Kd.RD)); exact HO419.out))) (bwZ (by repeat (first | (with_reducible first | exact HB.out | apply bwA | apply pwN | apply bw1) | exact HB.out)))); have n4_ := Zz.mk (Kd.R_lower (Kd.R_new' (Kd.R_new' ho1 (Kd.R_lt (by (with_reducible repeat (first | apply Kd.RA | apply Kd.RN | apply Kd.RD)); exact HO415.out))) (Kd.R_lt (by (with_reducible repeat (first | apply Kd.RA | apply Kd.RN | apply Kd.RD)); exact HO421.out))) (bwZ (by repeat (first | (with_reducible first | exact HB.out | apply bwA | apply pwN | apply bw1) | exact HB.out)))); have n5_ := Zz.mk (bwP (by repeat (first | (with_reducible first | exact HB.out | apply bwA | apply pwN | apply bw1) | exact HB.out)) hb); clear HO415; clear HO419; clear HO421; clear HB; have HO415 := n0_; have HO419 := n1_; have HO421 := n2_; have HO425 := n3_; have HO427 := n4_; have HB := n5_; clear n0_ n1_ n2_ n3_ n4_ n5_; (try clear hb); (try clear ho0); (try clear ho1); (try clear A5)))
  (try simp only [Act.put, List.setIfInBounds_toArray, List.set_cons_zero, List.set_cons_succ])
  go_cut [52] (fun v52 wc => ∃ (kq : Nat) (x52_5 : Bool), v52 = .bool x52_5 ∧ Zz (laws_FnCastAll.j0 kq t412 t413 t416 x52_5 = some r) ∧ Zz (kq ≤ k) ∧ Zz (Kd.R k42 42 wc w.heap.size (fun _ => True) (.slice Ao8 t412.length co8) t412) ∧ Zz (Kd.R k40 40 wc w.heap.size (fun _ => True) v418 t416) ∧ Zz (Below w.heap.size w wc))
  case first =>
   have H := HC6.out; clear HC6; replace H := Option.bind_eq_some_iff.mp H; obtain ⟨t428, A110, H⟩ := H; replace H : (if t428 = true then ((laws_lhItems.f k t417 t423).bind fun t429 => (if t429 = true then ((impl_CastOk.f k t412).bind fun t430 => ((spec_CastOk.f k t412).bind fun t431 => (laws_FnCastAll.j0 k t412 t413 t416 (t430 != t431)))) else (laws_FnCastAll.j0 k t412 t413 t416 true))) else (laws_FnCastAll.j0 k t412 t413 t416 true)) = some r := H; have A11 := Zz.mk A110; clear A110; by_cases c12 : t428 = true
   ·subst c12
    have H1 : ((laws_lhItems.f k t417 t423).bind fun t429 => (if t429 = true then ((impl_CastOk.f k t412).bind fun t430 => ((spec_CastOk.f k t412).bind fun t431 => (laws_FnCastAll.j0 k t412 t413 t416 (t430 != t431)))) else (laws_FnCastAll.j0 k t412 t413 t416 true))) = some r := by rw [if_pos rfl] at H; exact H
    clear H; have H := H1; clear H1; replace H := Option.bind_eq_some_iff.mp H; obtain ⟨t429, A130, H⟩ := H; replace H : (if t429 = true then ((impl_CastOk.f k t412).bind fun t430 => ((spec_CastOk.f k t412).bind fun t431 => (laws_FnCastAll.j0 k t412 t413 t416 (t430 != t431)))) else (laws_FnCastAll.j0 k t412 t413 t416 true)) = some r := H; have A13 := Zz.mk A130; clear A130; by_cases c14 : t429 = true
    ·subst c14
     have H1 : ((impl_CastOk.f k t412).bind fun t430 => ((spec_CastOk.f k t412).bind fun t431 => (laws_FnCastAll.j0 k t412 t413 t416 (t430 != t431)))) = some r := by rw [if_pos rfl] at H; exact H
     clear H; have H := H1; clear H1; replace H := Option.bind_eq_some_iff.mp H; obtain ⟨t430, A150, H⟩ := H; replace H : ((spec_CastOk.f k t412).bind fun t431 => (laws_FnCastAll.j0 k t412 t413 t416 (t430 != t431))) = some r := H; have A15 := Zz.mk A150; clear A150; replace H := Option.bind_eq_some_iff.mp H; obtain ⟨t431, A160, H⟩ := H; replace H : (laws_FnCastAll.j0 k t412 t413 t416 (t430 != t431)) = some r := H; have A16 := Zz.mk A160; clear A160; have H' := Zz.mk H; clear H; obtain ⟨Ao17, co17, eo17⟩ := Kd.R_slice HO419.out; subst eo17; obtain ⟨Ao18, co18, eo18⟩ := Kd.R_slice HO425.out; subst eo18; go_wp2_with (first | ((with_reducible refine gate_callee (f := 17) rfl ?_); refine goesL_ (some 38) rfl rfl Try.func17 (by kernel_rfl) rfl #[.slice Ao17 t416.length co17, .slice Ao18 t422.length co18] rfl (by (try simp only [List.map_toArray, List.map_cons, List.map_nil]); first | done | rfl | (simp only [List.length_drop, List.length_take]; rfl)) ?_; (with_reducible refine (laws_lhFacts.calls k _ _ t416 _ _ t422 true _ ?side1 ?side2 ?side3 ?side4 A11.out).mono ?_); (case side1 => repeat (first | exact (Kd.R_reads' HO419.out).2.2 | (with_reducible refine Kd.CA ?_ _) | (with_reducible refine Kd.CN ?_ _) | (with_reducible refine Kd.CD ?_))); (case side2 => exact (Kd.R_reads' HO419.out).2.1); (case side3 => repeat (first | exact (Kd.R_reads' HO425.out).2.2 | (with_reducible refine Kd.CA ?_ _) | (with_reducible refine Kd.CN ?_ _) | (with_reducible refine Kd.CD ?_))); (case side4 => exact (Kd.R_reads' HO425.out).2.1); rintro e w' ⟨rfl, ⟨nd, rfl⟩⟩; refine ⟨_, rfl, ?_⟩; (try clear A11); obtain ⟨Ao19, co19, eo19⟩ := Kd.R_slice HO421.out; subst eo19; obtain ⟨Ao20, co20, eo20⟩ := Kd.R_slice HO427.out; subst eo20) | (go_at_call 18; (with_reducible refine (laws_lhItems.calls k _ _ t417 _ _ t423 true _ ?side1 ?side2 ?side3 ?side4 A13.out).mono ?_); (case side1 => repeat (first | exact (Kd.R_reads' HO421.out).2.2 | (with_reducible refine Kd.CA ?_ _) | (with_reducible refine Kd.CN ?_ _) | (with_reducible refine Kd.CD ?_))); (case side2 => exact (Kd.R_reads' HO421.out).2.1); (case side3 => repeat (first | exact (Kd.R_reads' HO427.out).2.2 | (with_reducible refine Kd.CA ?_ _) | (with_reducible refine Kd.CN ?_ _) | (with_reducible refine Kd.CD ?_))); (case side4 => exact (Kd.R_reads' HO427.out).2.1); rintro e w' ⟨rfl, ⟨nd, rfl⟩⟩; (try clear A13)) | (go_at_call 19; (with_reducible refine (impl_CastOk.calls k _ _ t412 t430 _ ?side1 ?side2 A15.out).mono ?_); (case side1 => repeat (first | exact (Kd.R_reads' HO415.out).2.2 | (with_reducible refine Kd.CA ?_ _) | (with_reducible refine Kd.CN ?_ _) | (with_reducible refine Kd.CD ?_))); (case side2 => exact (Kd.R_reads' HO415.out).2.1); rintro e w21 ⟨rfl, hb⟩; have n0_ := Zz.mk (Kd.R_below (by (with_reducible repeat (first | apply Kd.RA | apply Kd.RN | apply Kd.RD)); exact HO415.out) hb); have n1_ := Zz.mk (Kd.R_below (by (with_reducible repeat (first | apply Kd.RA | apply Kd.RN | apply Kd.RD)); exact HO419.out) hb); have n2_ := Zz.mk (Kd.R_below (by (with_reducible repeat (first | apply Kd.RA | apply Kd.RN | apply Kd.RD)); exact HO421.out) hb); have n3_ := Zz.mk (Kd.R_below (by (with_reducible repeat (first | apply Kd.RA | apply Kd.RN | apply Kd.RD)); exact HO425.out) hb); have n4_ := Zz.mk (Kd.R_below (by (with_reducible repeat (first | apply Kd.RA | apply Kd.RN | apply Kd.RD)); exact HO427.out) hb); have n5_ := Zz.mk (bwP (by repeat (first | (with_reducible first | exact HB.out | apply bwA | apply pwN | apply bw1) | exact HB.out)) hb); clear HO415; clear HO419; clear HO421; clear HO425; clear HO427; clear HB; have HO415 := n0_; have HO419 := n1_; have HO421 := n2_; have HO425 := n3_; have HO427 := n4_; have HB := n5_; clear n0_ n1_ n2_ n3_ n4_ n5_; (try clear hb); (try clear A15)) | (go_at_call 20; (with_reducible refine (spec_CastOk.calls k _ _ t412 t431 _ ?side1 ?side2 A16.out).mono ?_); (case side1 => repeat (first | exact (Kd.R_reads' HO415.out).2.2 | (with_reducible refine Kd.CA ?_ _) | (with_reducible refine Kd.CN ?_ _) | (with_reducible refine Kd.CD ?_))); (case side2 => exact (Kd.R_reads' HO415.out).2.1); rintro e w22 ⟨rfl, hb⟩; have n0_ := Zz.mk (Kd.R_below (by (with_reducible repeat (first | apply Kd.RA | apply Kd.RN | apply Kd.RD)); exact HO415.out) hb); have n1_ := Zz.mk (Kd.R_below (by (with_reducible repeat (first | apply Kd.RA | apply Kd.RN | apply Kd.RD)); exact HO419.out) hb); have n2_ := Zz.mk (Kd.R_below (by (with_reducible repeat (first | apply Kd.RA | apply Kd.RN | apply Kd.RD)); exact HO421.out) hb); have n3_ := Zz.mk (Kd.R_below (by (with_reducible repeat (first | apply Kd.RA | apply Kd.RN | apply Kd.RD)); exact HO425.out) hb); have n4_ := Zz.mk (Kd.R_below (by (with_reducible repeat (first | apply Kd.RA | apply Kd.RN | apply Kd.RD)); exact HO427.out) hb); have n5_ := Zz.mk (bwP (by repeat (first | (with_reducible first | exact HB.out | apply bwA | apply pwN | apply bw1) | exact HB.out)) hb); clear HO415; clear HO419; clear HO421; clear HO425; clear HO427; clear HB; have HO415 := n0_; have HO419 := n1_; have HO421 := n2_; have HO425 := n3_; have HO427 := n4_; have HB := n5_; clear n0_ n1_ n2_ n3_ n4_ n5_; (try clear hb); (try clear A16)))
     go_meet
     case rel => exact ⟨_, ((t430 != t431)), (by first | rfl | (simp; done) | (simp [*]; done)), H', ⟨by first | omega | exact Nat.le_refl _⟩, ⟨by (with_reducible repeat (first | apply Kd.RA | apply Kd.RN | apply Kd.RD)); exact Kd.R_mono HO415.out (fun _ hk => trivial)⟩, ⟨by (with_reducible repeat (first | apply Kd.RA | apply Kd.RN | apply Kd.RD)); exact Kd.R_mono HO419.out (fun _ hk => trivial)⟩, ⟨by repeat (first | (with_reducible first | exact HB.out | apply bwA | apply pwN | apply bw1) | exact HB.out)⟩⟩
    ·replace c14 := Bool.eq_false_iff.mpr c14
     subst c14; have H1 : (laws_FnCastAll.j0 k t412 t413 t416 true) = some r := by rw [if_neg (show ¬ (false = true) by decide)] at H; exact H
     clear H; have H := H1; clear H1; have H' := Zz.mk H; clear H; obtain ⟨Ao23, co23, eo23⟩ := Kd.R_slice HO419.out; subst eo23; obtain ⟨Ao24, co24, eo24⟩ := Kd.R_slice HO425.out; subst eo24; go_wp2_with (first | ((with_reducible refine gate_callee (f := 17) rfl ?_); refine goesL_ (some 38) rfl rfl Try.func17 (by kernel_rfl) rfl #[.slice Ao23 t416.length co23, .slice Ao24 t422.length co24] rfl (by (try simp only [List.map_toArray, List.map_cons, List.map_nil]); first | done | rfl | (simp only [List.length_drop, List.length_take]; rfl)) ?_; (with_reducible refine (laws_lhFacts.calls k _ _ t416 _ _ t422 true _ ?side1 ?side2 ?side3 ?side4 A11.out).mono ?_); (case side1 => repeat (first | exact (Kd.R_reads' HO419.out).2.2 | (with_reducible refine Kd.CA ?_ _) | (with_reducible refine Kd.CN ?_ _) | (with_reducible refine Kd.CD ?_))); (case side2 => exact (Kd.R_reads' HO419.out).2.1); (case side3 => repeat (first | exact (Kd.R_reads' HO425.out).2.2 | (with_reducible refine Kd.CA ?_ _) | (with_reducible refine Kd.CN ?_ _) | (with_reducible refine Kd.CD ?_))); (case side4 => exact (Kd.R_reads' HO425.out).2.1); rintro e w' ⟨rfl, ⟨nd, rfl⟩⟩; refine ⟨_, rfl, ?_⟩; (try clear A11); obtain ⟨Ao25, co25, eo25⟩ := Kd.R_slice HO421.out; subst eo25; obtain ⟨Ao26, co26, eo26⟩ := Kd.R_slice HO427.out; subst eo26) | (go_at_call 18; (with_reducible refine (laws_lhItems.calls k _ _ t417 _ _ t423 false _ ?side1 ?side2 ?side3 ?side4 A13.out).mono ?_); (case side1 => repeat (first | exact (Kd.R_reads' HO421.out).2.2 | (with_reducible refine Kd.CA ?_ _) | (with_reducible refine Kd.CN ?_ _) | (with_reducible refine Kd.CD ?_))); (case side2 => exact (Kd.R_reads' HO421.out).2.1); (case side3 => repeat (first | exact (Kd.R_reads' HO427.out).2.2 | (with_reducible refine Kd.CA ?_ _) | (with_reducible refine Kd.CN ?_ _) | (with_reducible refine Kd.CD ?_))); (case side4 => exact (Kd.R_reads' HO427.out).2.1); rintro e w' ⟨rfl, ⟨nd, rfl⟩⟩; (try clear A13)))
     go_meet
     case rel => exact ⟨_, (true), (by first | rfl | (simp; done) | (simp [*]; done)), H', ⟨by first | omega | exact Nat.le_refl _⟩, ⟨by (with_reducible repeat (first | apply Kd.RA | apply Kd.RN | apply Kd.RD)); exact Kd.R_mono HO415.out (fun _ hk => trivial)⟩, ⟨by (with_reducible repeat (first | apply Kd.RA | apply Kd.RN | apply Kd.RD)); exact Kd.R_mono HO419.out (fun _ hk => trivial)⟩, ⟨by repeat (first | (with_reducible first | exact HB.out | apply bwA | apply pwN | apply bw1) | exact HB.out)⟩⟩
   ·replace c12 := Bool.eq_false_iff.mpr c12
    subst c12; have H1 : (laws_FnCastAll.j0 k t412 t413 t416 true) = some r := by rw [if_neg (show ¬ (false = true) by decide)] at H; exact H
    clear H; have H := H1; clear H1; have H' := Zz.mk H; clear H; obtain ⟨Ao27, co27, eo27⟩ := Kd.R_slice HO419.out; subst eo27; obtain ⟨Ao28, co28, eo28⟩ := Kd.R_slice HO425.out; subst eo28; go_wp2_with (first | ((with_reducible refine gate_callee (f := 17) rfl ?_); refine goesL_ (some 38) rfl rfl Try.func17 (by kernel_rfl) rfl #[.slice Ao27 t416.length co27, .slice Ao28 t422.length co28] rfl (by (try simp only [List.map_toArray, List.map_cons, List.map_nil]); first | done | rfl | (simp only [List.length_drop, List.length_take]; rfl)) ?_; (with_reducible refine (laws_lhFacts.calls k _ _ t416 _ _ t422 false _ ?side1 ?side2 ?side3 ?side4 A11.out).mono ?_); (case side1 => repeat (first | exact (Kd.R_reads' HO419.out).2.2 | (with_reducible refine Kd.CA ?_ _) | (with_reducible refine Kd.CN ?_ _) | (with_reducible refine Kd.CD ?_))); (case side2 => exact (Kd.R_reads' HO419.out).2.1); (case side3 => repeat (first | exact (Kd.R_reads' HO425.out).2.2 | (with_reducible refine Kd.CA ?_ _) | (with_reducible refine Kd.CN ?_ _) | (with_reducible refine Kd.CD ?_))); (case side4 => exact (Kd.R_reads' HO425.out).2.1); rintro e w' ⟨rfl, ⟨nd, rfl⟩⟩; refine ⟨_, rfl, ?_⟩; (try clear A11)))
    go_meet
    case rel => exact ⟨_, (true), (by first | rfl | (simp; done) | (simp [*]; done)), H', ⟨by first | omega | exact Nat.le_refl _⟩, ⟨by (with_reducible repeat (first | apply Kd.RA | apply Kd.RN | apply Kd.RD)); exact Kd.R_mono HO415.out (fun _ hk => trivial)⟩, ⟨by (with_reducible repeat (first | apply Kd.RA | apply Kd.RN | apply Kd.RD)); exact Kd.R_mono HO419.out (fun _ hk => trivial)⟩, ⟨by repeat (first | (with_reducible first | exact HB.out | apply bwA | apply pwN | apply bw1) | exact HB.out)⟩⟩
  case rest =>
   clear HC6; try clear c1
   try clear c2
   try clear c2b0
   try clear c2b1
   try clear p2
   try clear c4
   try clear c7
   try clear c9
   try clear c12
   try clear c14
   try clear c16
   try clear c17
   obtain ⟨kq, x52_5, rfl, HA, HJ5, HO_3, HO_5, HB⟩ := hcut; cases kq with
   | zero => exact absurd HA.out (by simp [laws_FnCastAll.j0])
   | succ kj5 =>
    have H := HA.out; clear HA; simp only [laws_FnCastAll.j0] at H; by_cases c29 : x52_5 = true
    ·subst c29
     have H1 : (none) = some r := by rw [if_pos rfl] at H; exact H
     clear H; have H := H1; clear H1; exact absurd H (by simp)
    ·replace c29 := Bool.eq_false_iff.mpr c29
     subst c29; have H1 : ((spec_CastOk.f kj5 t412).bind fun t432 => (if t432 = true then (laws_FnCastAll.j1 kj5 t412 t413 t416 (decide (t413 < 1))) else (laws_FnCastAll.j1 kj5 t412 t413 t416 true))) = some r := by rw [if_neg (show ¬ (false = true) by decide)] at H; exact H
     clear H; have H := H1; clear H1; have HC30 := Zz.mk H; clear H; go_upto_region 8 with (fail)
     go_cut [59] (fun v59 wc => ∃ (kq : Nat) (x59_29 : Bool), v59 = .bool x59_29 ∧ Zz (laws_FnCastAll.j1 kq t412 t413 t416 x59_29 = some r) ∧ Zz (kq ≤ kj5) ∧ Zz (Kd.R k42 42 wc w.heap.size (fun _ => True) (.slice Ao8 t412.length co8) t412) ∧ Zz (Kd.R k40 40 wc w.heap.size (fun _ => True) v418 t416) ∧ Zz (Below w.heap.size w wc))
     case first =>
      have H := HC30.out; clear HC30; replace H := Option.bind_eq_some_iff.mp H; obtain ⟨t432, A310, H⟩ := H; replace H : (if t432 = true then (laws_FnCastAll.j1 kj5 t412 t413 t416 (decide (t413 < 1))) else (laws_FnCastAll.j1 kj5 t412 t413 t416 true)) = some r := H; have A31 := Zz.mk A310; clear A310; by_cases c32 : t432 = true
      ·subst c32
       have H1 : (laws_FnCastAll.j1 kj5 t412 t413 t416 (decide (t413 < 1))) = some r := by rw [if_pos rfl] at H; exact H
       clear H; have H := H1; clear H1; have H' := Zz.mk H; clear H; go_wp2_with (first | ((with_reducible refine gate_callee (f := 20) rfl ?_); refine goesL_ (some 54) rfl rfl Try.func20 (by kernel_rfl) rfl #[.slice Ao8 t412.length co8] rfl (by (try simp only [List.map_toArray, List.map_cons, List.map_nil]); first | done | rfl | (simp only [List.length_drop, List.length_take]; rfl)) ?_; (with_reducible refine (spec_CastOk.calls kj5 _ _ t412 true _ ?side1 ?side2 A31.out).mono ?_); (case side1 => repeat (first | exact (Kd.R_reads' HO_3.out).2.2 | (with_reducible refine Kd.CA ?_ _) | (with_reducible refine Kd.CN ?_ _) | (with_reducible refine Kd.CD ?_))); (case side2 => exact (Kd.R_reads' HO_3.out).2.1); rintro e w33 ⟨rfl, hb⟩; refine ⟨_, rfl, ?_⟩; have n0_ := Zz.mk (Kd.R_below (by (with_reducible repeat (first | apply Kd.RA | apply Kd.RN | apply Kd.RD)); exact HO_3.out) hb); have n1_ := Zz.mk (Kd.R_below (by (with_reducible repeat (first | apply Kd.RA | apply Kd.RN | apply Kd.RD)); exact HO_5.out) hb); have n2_ := Zz.mk (bwP (by repeat (first | (with_reducible first | exact HB.out | apply bwA | apply pwN | apply bw1) | exact HB.out)) hb); clear HO_3; clear HO_5; clear HB; have HO_3 := n0_; have HO_5 := n1_; have HB := n2_; clear n0_ n1_ n2_; (try clear hb); (try clear A31)))
       go_meet
       case rel => exact ⟨_, (decide (t413 < 1)), (by first | rfl | (simp; done) | (simp [*]; done)), H', ⟨by have := HJ5.out; first | omega | exact Nat.le_refl _⟩, ⟨by (with_reducible repeat (first | apply Kd.RA | apply Kd.RN | apply Kd.RD)); exact Kd.R_mono HO_3.out (fun _ _ => trivial)⟩, ⟨by (with_reducible repeat (first | apply Kd.RA | apply Kd.RN | apply Kd.RD)); exact HO_5.out⟩, ⟨by repeat (first | (with_reducible first | exact HB.out | apply bwA | apply pwN | apply bw1) | exact HB.out)⟩⟩
      ·replace c32 := Bool.eq_false_iff.mpr c32
       subst c32; have H1 : (laws_FnCastAll.j1 kj5 t412 t413 t416 true) = some r := by rw [if_neg (show ¬ (false = true) by decide)] at H; exact H
       clear H; have H := H1; clear H1; have H' := Zz.mk H; clear H; go_wp2_with (first | ((with_reducible refine gate_callee (f := 20) rfl ?_); refine goesL_ (some 54) rfl rfl Try.func20 (by kernel_rfl) rfl #[.slice Ao8 t412.length co8] rfl (by (try simp only [List.map_toArray, List.map_cons, List.map_nil]); first | done | rfl | (simp only [List.length_drop, List.length_take]; rfl)) ?_; (with_reducible refine (spec_CastOk.calls kj5 _ _ t412 false _ ?side1 ?side2 A31.out).mono ?_); (case side1 => repeat (first | exact (Kd.R_reads' HO_3.out).2.2 | (with_reducible refine Kd.CA ?_ _) | (with_reducible refine Kd.CN ?_ _) | (with_reducible refine Kd.CD ?_))); (case side2 => exact (Kd.R_reads' HO_3.out).2.1); rintro e w34 ⟨rfl, hb⟩; refine ⟨_, rfl, ?_⟩; have n0_ := Zz.mk (Kd.R_below (by (with_reducible repeat (first | apply Kd.RA | apply Kd.RN | apply Kd.RD)); exact HO_3.out) hb); have n1_ := Zz.mk (Kd.R_below (by (with_reducible repeat (first | apply Kd.RA | apply Kd.RN | apply Kd.RD)); exact HO_5.out) hb); have n2_ := Zz.mk (bwP (by repeat (first | (with_reducible first | exact HB.out | apply bwA | apply pwN | apply bw1) | exact HB.out)) hb); clear HO_3; clear HO_5; clear HB; have HO_3 := n0_; have HO_5 := n1_; have HB := n2_; clear n0_ n1_ n2_; (try clear hb); (try clear A31)))
       go_meet
       case rel => exact ⟨_, (true), (by first | rfl | (simp; done) | (simp [*]; done)), H', ⟨by have := HJ5.out; first | omega | exact Nat.le_refl _⟩, ⟨by (with_reducible repeat (first | apply Kd.RA | apply Kd.RN | apply Kd.RD)); exact Kd.R_mono HO_3.out (fun _ _ => trivial)⟩, ⟨by (with_reducible repeat (first | apply Kd.RA | apply Kd.RN | apply Kd.RD)); exact HO_5.out⟩, ⟨by repeat (first | (with_reducible first | exact HB.out | apply bwA | apply pwN | apply bw1) | exact HB.out)⟩⟩
     case rest =>
      clear HC30; try clear c1
      try clear c2
      try clear c2b0
      try clear c2b1
      try clear p2
      try clear c3
      try clear c4
      try clear c7
      try clear c9
      try clear c12
      try clear c14
      try clear c16
      try clear c17
      try clear c20
      try clear c29
      try clear c32
      try clear p2
      obtain ⟨kq, x59_29, rfl, HA, HJ29, HO_3, HO_5, HB⟩ := hcut; cases kq with
      | zero => exact absurd HA.out (by simp [laws_FnCastAll.j1])
      | succ kj29 =>
       have H := HA.out; clear HA; simp only [laws_FnCastAll.j1] at H; by_cases c35 : x59_29 = true
       ·subst c35
        have H1 : (some ((t416.length : Int) == 0)) = some r := by rw [if_pos rfl] at H; exact H
        clear H; have H := H1; clear H1; obtain rfl := Option.some.inj H; obtain ⟨Ao36, co36, eo36⟩ := Kd.R_slice HO_5.out; subst eo36; go_wp2
        go_ret
        exact ⟨by first | rfl | (simp [eN, eS] <;> rfl) | (simp [*, eN, eS] <;> rfl), by repeat (first | (with_reducible first | exact HB.out | apply bwA | apply pwN | apply bw1) | exact HB.out)⟩
       ·replace c35 := Bool.eq_false_iff.mpr c35
        subst c35; have H1 : (if 8 ≤ 35184372088832 then ((some (([] : List (S42)) : List (S42))).bind fun y436 => (if y436.length + t412.length < 3518437208883 then (laws_FnCastAll.l0 kj29 t412 t413 (List.replicate 8 0) (y436 ++ t412) 0) else (none))) else (none)) = some r := by rw [if_neg (show ¬ (false = true) by decide)] at H; exact H
        clear H; have H := H1; clear H1; by_cases c37 : 8 ≤ 35184372088832
        ·rw [if_pos c37] at H
         have c37b0 := eq_true c37; have c37b1 : decide (8 ≤ 35184372088832) = true := decide_eq_true c37; clear c37; obtain ⟨y433, hy433⟩ : ∃ y_ : List Int, y_ = (List.replicate 8 0) := ⟨_, rfl⟩
         replace H : ((some (([] : List (S42)) : List (S42))).bind fun y436 => (if y436.length + t412.length < 3518437208883 then (laws_FnCastAll.l0 kj29 t412 t413 y433 (y436 ++ t412) 0) else (none))) = some r := by first | (rw [hy433]; with_reducible exact H) | (replace H := (Option.bind_some _ _).symm.trans H; first | (rw [hy433]; with_reducible exact H) | with_reducible exact H) | with_reducible exact H | (rw [hy433]; exact H) | exact H
         have Ny433 := Zz.mk hy433; clear hy433; obtain ⟨y436, hy436⟩ : ∃ y_ : List (S42), y_ = (([] : List (S42))) := ⟨_, rfl⟩
         replace H : (if y436.length + t412.length < 3518437208883 then (laws_FnCastAll.l0 kj29 t412 t413 y433 (y436 ++ t412) 0) else (none)) = some r := by first | (rw [hy436]; with_reducible exact H) | (replace H := (Option.bind_some _ _).symm.trans H; first | (rw [hy436]; with_reducible exact H) | with_reducible exact H) | with_reducible exact H | (rw [hy436]; exact H) | exact H
         have Ny436 := Zz.mk hy436; clear hy436; by_cases c38 : y436.length + t412.length < 3518437208883
         ·rw [if_pos c38] at H
          have LMc38 := Zz.mk c38; clear c38; obtain ⟨y439, hy439⟩ : ∃ y_ : List (S42), y_ = (y436 ++ t412) := ⟨_, rfl⟩
          replace H : (laws_FnCastAll.l0 kj29 t412 t413 y433 y439 0) = some r := by first | (rw [hy439]; with_reducible exact H) | (replace H := (Option.bind_some _ _).symm.trans H; first | (rw [hy439]; with_reducible exact H) | with_reducible exact H) | with_reducible exact H | (rw [hy439]; exact H) | exact H
          have Ny439 := Zz.mk hy439; clear hy439; have H' := Zz.mk H; clear H; go_wp2_with (first | ((with_reducible refine gate_dst (N := 63) rfl ?_); refine Kd.R_make (Kd.int .i64) _ 3 rfl (N := 63) rfl 38 _ _ rfl 8 rfl rfl Try.underlying38 (.int .i64 0) 8 info3 rfl (by decide) (by omega) 0 (ok := fun _ => True) (okp := fun _ => True) rfl (fun _ hk => hk) trivial (by omega) (by omega) (Below.refl _ _) (Nat.le_refl _) ?_; intro v434 w39 ho40 hb hg_ hnew_; clear hg_ hnew_; (first | rw [← Ny433.out] at ho40 | (simp only [Int.reduceToNat] at ho40; rw [← Ny433.out] at ho40)); have n0_ := Zz.mk (Kd.R_below (by (with_reducible repeat (first | apply Kd.RA | apply Kd.RN | apply Kd.RD)); exact HO_3.out) hb); have n1_ := Zz.mk (Kd.R_below (by (with_reducible repeat (first | apply Kd.RA | apply Kd.RN | apply Kd.RD)); exact HO_5.out) hb); have n2_ := Zz.mk (Kd.R_lower ho40 (bwZ (by repeat (first | (with_reducible first | exact HB.out | apply bwA | apply pwN | apply bw1) | exact HB.out)))); have n3_ := Zz.mk (bwP (by repeat (first | (with_reducible first | exact HB.out | apply bwA | apply pwN | apply bw1) | exact HB.out)) hb); clear HO_3; clear HO_5; clear HB; have HO_3 := n0_; have HO_5 := n1_; have HO435 := n2_; have HB := n3_; clear n0_ n1_ n2_ n3_; clear hb ho40))
          go_loopg [10, 11] kj29 (fun kq v10 v11 w' => ∃ (x9_3 : List Int) (x10_3 : List (S42)) (x11_3 : Int), v11 = .int .i64 x11_3 ∧ Zz (laws_FnCastAll.l0 kq t412 t413 x9_3 x10_3 x11_3 = some r) ∧ Zz (kq ≤ kj29) ∧ Zz (Kd.R k42 42 w' w.heap.size (fun _ => True) (.slice Ao8 t412.length co8) t412) ∧ Zz (Kd.R (Kd.int .i64) 3 w' w.heap.size (fun _ => True) v434 x9_3) ∧ Zz (Kd.R k42 42 w' w.heap.size (fun _ => True) v10 x10_3) ∧ Zz (Below w.heap.size w w'))
          case atStart => exact ⟨(y433), (y439), (0), (by first | rfl | (simp; done) | (simp [*]; done)), H', ⟨Nat.le_refl _⟩, ⟨by (with_reducible repeat (first | apply Kd.RA | apply Kd.RN | apply Kd.RD)); exact Kd.R_mono HO_3.out (fun _ _ => trivial)⟩, ⟨by (with_reducible repeat (first | apply Kd.RA | apply Kd.RN | apply Kd.RD)); exact HO435.out⟩, ⟨by (with_reducible repeat (first | apply Kd.RA | apply Kd.RN | apply Kd.RD)); rw [show y439 = t412 by rw [Ny439.out, Ny436.out, List.nil_append]]; exact Kd.R_mono HO_3.out (fun _ _ => trivial)⟩, ⟨by repeat (first | (with_reducible first | exact HB.out | apply bwA | apply pwN | apply bw1) | exact HB.out)⟩⟩
          case round =>
           clear H'; try clear c1
           try clear c2
           try clear c2b0
           try clear c2b1
           try clear p2
           try clear c3
           try clear c4
           try clear c7
           try clear c9
           try clear c12
           try clear c14
           try clear c16
           try clear c17
           try clear c20
           try clear c29
           try clear c32
           try clear c35
           try clear c37
           try clear c37b0
           try clear c37b1
           try clear c38
           try clear p2
           obtain ⟨x9_3, x10_3, x11_3, rfl, HA, HK3, HO_3, HO_9, HO_10, HB⟩ := hrel; cases gk with
           | zero => exact absurd HA.out (by simp [laws_FnCastAll.l0])
           | succ k3 =>
            have H := HA.out; clear HA; simp only [laws_FnCastAll.l0] at H; by_cases c44 : x11_3 < 40
            ·rw [if_pos c44] at H
             have c44b0 : decide (x11_3 < 40) = true := decide_eq_true c44; clear c44; replace H := Option.bind_eq_some_iff.mp H; obtain ⟨⟨t442, t443⟩, A450, H⟩ := H; replace H : (laws_FnCastAll.l1 k3 t412 t413 x9_3 x11_3 t442 t443 0) = some r := H; have A45 := Zz.mk A450; clear A450; have H' := Zz.mk H; clear H; obtain ⟨Ao46, co46, eo46⟩ := Kd.R_slice HO_10.out; subst eo46; go_wp2_with (first | ((with_reducible refine gate_callee (f := 9) rfl ?_); refine goesL_ (some 72) rfl rfl Try.func9 (by kernel_rfl) rfl #[.slice Ao46 x10_3.length co46, .int .i64 t413] rfl (by (try simp only [List.map_toArray, List.map_cons, List.map_nil]); first | done | rfl | (simp only [List.length_drop, List.length_take]; rfl)) ?_; (with_reducible refine (impl_CastTake.calls k3 _ _ x10_3 t413 t442 t443 _ ?side1 ?side2 A45.out).mono ?_); (case side1 => repeat (first | exact (Kd.R_reads' HO_10.out).2.2 | (with_reducible refine Kd.CA ?_ _) | (with_reducible refine Kd.CN ?_ _) | (with_reducible refine Kd.CD ?_))); (case side2 => exact (Kd.R_reads' HO_10.out).2.1); rintro e w47 ⟨v444, v446, rfl, ho0, ho1, hb⟩; refine ⟨_, rfl, ?_⟩; have n0_ := Zz.mk (Kd.R_elder' (by (with_reducible repeat (first | apply Kd.RA | apply Kd.RN | apply Kd.RD)); exact HO_3.out) (Kd.R_base ho1) hb); have n1_ := Zz.mk (Kd.R_below (by (with_reducible repeat (first | apply Kd.RA | apply Kd.RN | apply Kd.RD)); exact HO_9.out) hb); have n2_ := Zz.mk (Kd.R_elder' (by (with_reducible repeat (first | apply Kd.RA | apply Kd.RN | apply Kd.RD)); exact HO_10.out) (Kd.R_base ho1) hb); have n3_ := Zz.mk (Kd.R_lower ho0 (bwZ (by repeat (first | (with_reducible first | exact HB.out | apply bwA | apply pwN | apply bw1) | exact HB.out)))); have n4_ := Zz.mk (Kd.R_lower (Kd.R_new' (Kd.R_new' ho1 (Kd.R_lt (by (with_reducible repeat (first | apply Kd.RA | apply Kd.RN | apply Kd.RD)); exact HO_3.out))) (Kd.R_lt (by (with_reducible repeat (first | apply Kd.RA | apply Kd.RN | apply Kd.RD)); exact HO_10.out))) (bwZ (by repeat (first | (with_reducible first | exact HB.out | apply bwA | apply pwN | apply bw1) | exact HB.out)))); have n5_ := Zz.mk (bwP (by repeat (first | (with_reducible first | exact HB.out | apply bwA | apply pwN | apply bw1) | exact HB.out)) hb); clear HO_3; clear HO_9; clear HO_10; clear HB; have HO_3 := n0_; have HO_9 := n1_; have HO_10 := n2_; have HO445 := n3_; have HO447 := n4_; have HB := n5_; clear n0_ n1_ n2_ n3_ n4_ n5_; (try clear hb); (try clear ho0); (try clear ho1); (try clear A45)))
             go_loopg [14] k3 (fun kq v14 w' => ∃ (x9_4 : List Int) (x14_4 : Int), v14 = .int .i64 x14_4 ∧ Zz (laws_FnCastAll.l1 kq t412 t413 x9_4 x11_3 t442 t443 x14_4 = some r) ∧ Zz (kq ≤ k3) ∧ Zz (Kd.R k42 42 w' w.heap.size (fun k_ => some k_ ≠ (v446 : Value).ownBlock) (.slice Ao8 t412.length co8) t412) ∧ Zz (Kd.R (Kd.int .i64) 3 w' w.heap.size (fun _ => True) v434 x9_4) ∧ Zz (Kd.R k40 40 w' w.heap.size (fun _ => True) v444 t442) ∧ Zz (Kd.R k42 42 w' w.heap.size (fun k_ => some k_ ≠ ((.slice Ao8 t412.length co8) : Value).ownBlock) v446 t443) ∧ Zz (Below w.heap.size w w'))
             case atStart => exact ⟨(x9_3), (0), (by first | rfl | (simp; done) | (simp [*]; done)), H', ⟨Nat.le_refl _⟩, ⟨by (with_reducible repeat (first | apply Kd.RA | apply Kd.RN | apply Kd.RD)); exact Kd.R_mono HO_3.out (fun _ hk => hk.2)⟩, ⟨by (with_reducible repeat (first | apply Kd.RA | apply Kd.RN | apply Kd.RD)); exact HO_9.out⟩, ⟨by (with_reducible repeat (first | apply Kd.RA | apply Kd.RN | apply Kd.RD)); exact HO445.out⟩, ⟨by (with_reducible repeat (first | apply Kd.RA | apply Kd.RN | apply Kd.RD)); exact Kd.R_mono HO447.out (fun _ hk => hk.1.2)⟩, ⟨by repeat (first | (with_reducible first | exact HB.out | apply bwA | apply pwN | apply bw1) | exact HB.out)⟩⟩
             case round =>
              clear H'; try clear c1
              try clear c2
              try clear c2b0
              try clear c2b1
              try clear p2
              try clear c3
              try clear c4
              try clear c7
              try clear c9
              try clear c12
              try clear c14
              try clear c16
              try clear c17
              try clear c20
              try clear c29
              try clear c32
              try clear c35
              try clear c37
              try clear c37b0
              try clear c37b1
              try clear c38
              try clear c44
              try clear c44b0
              try clear p2
              obtain ⟨x9_4, x14_4, rfl, HA, HK4, HO_3, HO_9, HO_12, HO_13, HB⟩ := hrel; cases gk with
              | zero => exact absurd HA.out (by simp [laws_FnCastAll.l1])
              | succ k4 =>
               have H := HA.out; clear HA; simp only [laws_FnCastAll.l1] at H; by_cases c48 : x14_4 < (t442.length : Int)
               ·rw [if_pos c48] at H
                have c48b0 : decide (x14_4 < (t442.length : Int)) = true := decide_eq_true c48; clear c48; by_cases c49 : 0 ≤ x14_4
                ·rw [if_pos c49] at H
                 have c49b0 : decide (0 ≤ x14_4) = true := decide_eq_true c49; clear c49; by_cases c50 : 0 ≤ ((rd_T40 t442 x14_4).f0)
                 ·rw [if_pos c50] at H
                  have c50b0 : decide (0 ≤ ((rd_T40 t442 x14_4).f0)) = true := decide_eq_true c50; clear c50; by_cases c51 : ((rd_T40 t442 x14_4).f0) < (x9_4.length : Int)
                  ·rw [if_pos c51] at H
                   have c51b0 : decide (((rd_T40 t442 x14_4).f0) < (x9_4.length : Int)) = true := decide_eq_true c51; clear c51; obtain ⟨y451, hy451⟩ : ∃ y_ : List Int, y_ = (x9_4.set (((rd_T40 t442 x14_4).f0) : Int).toNat (wrap64 ((rd x9_4 ((rd_T40 t442 x14_4).f0)) + 1))) := ⟨_, rfl⟩
                   replace H : (laws_FnCastAll.l1 k4 t412 t413 y451 x11_3 t442 t443 (wrap64 (x14_4 + 1))) = some r := by first | (rw [hy451]; with_reducible exact H) | (replace H := (Option.bind_some _ _).symm.trans H; first | (rw [hy451]; with_reducible exact H) | with_reducible exact H) | with_reducible exact H | (rw [hy451]; exact H) | exact H
                   have Ny451 := Zz.mk hy451; clear hy451; have H' := Zz.mk H; clear H; obtain ⟨Ao53, co53, eo53⟩ := Kd.R_slice HO_12.out; subst eo53; try go_wp2
                   have n0_ := Zz.mk (Kd.RD HO_3.out); have n1_ := Zz.mk (Kd.RD HO_9.out); have n2_ := Zz.mk (Kd.RD HO_12.out); have n3_ := Zz.mk (Kd.RD HO_13.out); have n4_ := Zz.mk (bw1 HB.out); clear HO_3; clear HO_9; clear HO_12; clear HO_13; clear HB; have HO_3 := n0_; have HO_9 := n1_; have HO_12 := n2_; have HO_13 := n3_; have HB := n4_; clear n0_ n1_ n2_ n3_ n4_; have p448 : 0 ≤ (x14_4 : Int) := of_decide_eq_true (by first | (with_reducible assumption) | assumption); have q448 : x14_4 < (t442.length : Int) := of_decide_eq_true (by first | (with_reducible assumption) | assumption); obtain ⟨ad448, e448, hx448_0, hx448_1, hx448_2, hx448_3⟩ := at_T40 (Kd.R_reads' HO_12.out).2.2 x14_4 p448 q448; cases e448
                   replace p448 := eq_true p448; replace q448 := eq_true q448; have p449 : 0 ≤ (x14_4 : Int) := of_decide_eq_true (by first | (with_reducible assumption) | assumption); have q449 : x14_4 < (t442.length : Int) := of_decide_eq_true (by first | (with_reducible assumption) | assumption); obtain ⟨ad449, e449, hx449_0, hx449_1, hx449_2, hx449_3⟩ := at_T40 (Kd.R_reads' HO_12.out).2.2 x14_4 p449 q449; obtain rfl : ad448 = ad449 := (by injection e449)
                   replace p449 := eq_true p449; replace q449 := eq_true q449; obtain ⟨Ao55, co55, eo55⟩ := Kd.R_slice HO_9.out; (first | subst eo55 | (injection eo55 with f1_ f2_ f3_; have f4_ := f1_.symm; have f5_ := f3_.symm; clear f1_ f2_ f3_; subst f4_; subst f5_))
                   have p450 : 0 ≤ (((rd_T40 t442 x14_4).f0) : Int) := of_decide_eq_true (by first | (with_reducible assumption) | assumption); have q450 : ((rd_T40 t442 x14_4).f0) < (x9_4.length : Int) := of_decide_eq_true (by first | (with_reducible assumption) | assumption); obtain ⟨ad450, e450, hx450_0⟩ := Kd.at_int (Kd.R_reads' HO_9.out).2.2 ((rd_T40 t442 x14_4).f0) p450 q450; cases e450
                   replace p450 := eq_true p450; replace q450 := eq_true q450; have p52 : 0 ≤ (((rd_T40 t442 x14_4).f0) : Int) := of_decide_eq_true (by first | (with_reducible assumption) | assumption); have q52 : (((rd_T40 t442 x14_4).f0) : Int) < ((x9_4.length : Int) : Int) := of_decide_eq_true (by first | (with_reducible assumption) | assumption); obtain ⟨go52, co52, eo52, gb52, gl52, cl52, HG52⟩ := Kd.R_form HO_9.out (by omega); (first | cases eo52 | (injection eo52 with ea_ en_ ec_; (first | subst ea_ | (injection ea_ with ea_; subst ea_)); subst ec_; clear en_))
                   have GB52 := Zz.mk gb52; have GG52 := Zz.mk HG52; clear gb52 gl52 HG52; (first | simp only [add_plain] at hx450_0 | skip)
                   obtain ⟨hx52_0, hf52_0⟩ := Kd.R_celln 0 HO_9.out (((rd_T40 t442 x14_4).f0) : Int) p52 q52; replace p52 := eq_true p52; replace q52 := eq_true q52; have HP56 := Kd.R_putn HO_9.out (((rd_T40 t442 x14_4).f0) : Int) (wrap64 ((rd x9_4 ((rd_T40 t442 x14_4).f0)) + 1)); rw [← Ny451.out] at HP56; have HQ56 := Zz.mk HP56; clear HP56; refine start_ (n := 17) (S := fun w' => w'.cell? (ad448.add ((x14_4).toNat * 4)) = some (.int .i64 ((rd_T40 t442 x14_4).f0)) ∧ w'.cell? ⟨(ad448.add ((x14_4).toNat * 4)).block, (ad448.add ((x14_4).toNat * 4)).off + 1, none⟩ = some (.int .i64 ((rd_T40 t442 x14_4).f1)) ∧ w'.cell? ⟨(ad448.add ((x14_4).toNat * 4)).block, (ad448.add ((x14_4).toNat * 4)).off + 2, none⟩ = some (.int .i64 ((rd_T40 t442 x14_4).f2)) ∧ w'.cell? ⟨(ad448.add ((x14_4).toNat * 4)).block, (ad448.add ((x14_4).toNat * 4)).off + 3, none⟩ = some (.bool ((rd_T40 t442 x14_4).f3)) ∧ w'.cell? (ad448.add ((x14_4).toNat * 4)) = some (.int .i64 ((rd_T40 t442 x14_4).f0)) ∧ w'.cell? ⟨(ad448.add ((x14_4).toNat * 4)).block, (ad448.add ((x14_4).toNat * 4)).off + 1, none⟩ = some (.int .i64 ((rd_T40 t442 x14_4).f1)) ∧ w'.cell? ⟨(ad448.add ((x14_4).toNat * 4)).block, (ad448.add ((x14_4).toNat * 4)).off + 2, none⟩ = some (.int .i64 ((rd_T40 t442 x14_4).f2)) ∧ w'.cell? ⟨(ad448.add ((x14_4).toNat * 4)).block, (ad448.add ((x14_4).toNat * 4)).off + 3, none⟩ = some (.bool ((rd_T40 t442 x14_4).f3)) ∧ w'.cell? ⟨go52, (((rd_T40 t442 x14_4).f0)).toNat, none⟩ = some (.int .i64 (rd x9_4 ((rd_T40 t442 x14_4).f0)))) (ds := [16]) #[false, false, false, false, false, false, false, false, false, false, false, false, false, false, false, false, false] (by kernel_rfl) rfl rfl ⟨hx448_0, hx448_1, hx448_2, hx448_3, hx449_0, hx449_1, hx449_2, hx449_3, hx450_0⟩ (fun hH => ?_); refine with_tabW laws_FnCastAll.tab19 laws_FnCastAll.bits19 (fun HT_ HW_ => ?_); generalize wr.drew = w54 at HO_3 HO_9 HO_12 HO_13 HB GG52 HQ56 hf52_0 hx448_0 hx448_1 hx448_2 hx448_3 hx449_0 hx449_1 hx449_2 hx449_3 hx450_0 hx52_0 hH ⊢; refine pure_ (i := 0) (N := some 81) (v := ?_) (a' := ?_) #[true, false, false, false, false, false, false, false, false, false, false, false, false, false, false, false, false] rfl rfl (any_of HT_.out (by kernel_rfl)) (fun _ _ _ h => h) (Or.inl ⟨by rfl, ?_⟩) ?_ ?_; rotate_left
                   ·intro w'; go_simp; with_reducible rfl
                   rotate_left
                   ·simp only [pS, i64_w, i32_w]; rfl
                   refine pure_ (i := 1) (N := some 82) (v := ?_) (a' := ?_) #[true, true, false, false, false, false, false, false, false, false, false, false, false, false, false, false, false] rfl rfl (any_of HT_.out (by kernel_rfl)) (fun _ _ _ h => h) (Or.inl ⟨by rfl, ?_⟩) ?_ ?_; rotate_left
                   ·intro w'; go_simp; with_reducible rfl
                   rotate_left
                   ·simp only [pS, i64_w, i32_w]; rfl
                   refine pure_ (i := 2) (N := some 83) (v := ?_) (a' := ?_) #[true, true, true, false, false, false, false, false, false, false, false, false, false, false, false, false, false] rfl rfl (any_of HT_.out (by kernel_rfl)) (fun _ _ _ h => h) (Or.inl ⟨by rfl, ?_⟩) ?_ ?_; rotate_left
                   ·intro w'; go_simp; with_reducible rfl
                   rotate_left
                   ·simp only [pS, i64_w, i32_w]; rfl
                   refine pure_ (i := 3) (N := some 84) (v := ?_) (a' := ?_) #[true, true, true, true, false, false, false, false, false, false, false, false, false, false, false, false, false] rfl rfl (any_of HT_.out (by kernel_rfl)) (fun _ _ _ h => h) (Or.inl ⟨by rfl, ?_⟩) ?_ ?_; rotate_left
                   ·intro w'; go_simp; with_reducible rfl
                   rotate_left
                   ·simp only [pS, i64_w, i32_w]; rfl
                   refine pure_ (i := 4) (N := some 85) (v := ?_) (a' := ?_) #[true, true, true, true, true, false, false, false, false, false, false, false, false, false, false, false, false] rfl rfl (any_of HT_.out (by kernel_rfl)) (fun _ _ _ h => h) (Or.inl ⟨by rfl, ?_⟩) ?_ ?_; rotate_left
                   ·intro w'; go_simp; with_reducible rfl
                   rotate_left
                   ·simp only [pS, i64_w, i32_w]; rfl
                   refine pure_ (i := 6) (N := some 87) (v := ?_) (a' := ?_) #[true, true, true, true, true, false, true, false, false, false, false, false, false, false, false, false, false] rfl rfl (any_of HT_.out (by kernel_rfl)) (fun _ _ _ h => h) (Or.inl ⟨by rfl, ?_⟩) ?_ ?_; rotate_left
                   ·intro w'; go_simp; with_reducible rfl
                   rotate_left
                   ·simp only [pS, i64_w, i32_w]; rfl
                   refine pure_ (i := 7) (N := some 88) (v := ?_) (a' := ?_) #[true, true, true, true, true, false, true, true, false, false, false, false, false, false, false, false, false] rfl rfl (any_of HT_.out (by kernel_rfl)) (fun _ _ _ h => h) (Or.inl ⟨by rfl, ?_⟩) ?_ ?_; rotate_left
                   ·intro w'; go_simp; with_reducible rfl
                   rotate_left
                   ·simp only [pS, i64_w, i32_w]; rfl
                   refine pure_ (i := 8) (N := some 89) (v := ?_) (a' := ?_) #[true, true, true, true, true, false, true, true, true, false, false, false, false, false, false, false, false] rfl rfl (any_of HT_.out (by kernel_rfl)) (fun _ _ _ h => h) (Or.inl ⟨by rfl, ?_⟩) ?_ ?_; rotate_left
                   ·intro w'; go_simp; with_reducible rfl
                   rotate_left
                   ·simp only [pS, i64_w, i32_w]; rfl
                   refine pure_ (i := 9) (N := some 90) (v := ?_) (a' := ?_) #[true, true, true, true, true, false, true, true, true, true, false, false, false, false, false, false, false] rfl rfl (any_of HT_.out (by kernel_rfl)) (fun _ _ _ h => h) (Or.inl ⟨by rfl, ?_⟩) ?_ ?_; rotate_left
                   ·intro w'; go_simp; with_reducible rfl
                   rotate_left
                   ·simp only [pS, i64_w, i32_w]; rfl
                   refine pure_ (i := 10) (N := some 91) (v := ?_) (a' := ?_) #[true, true, true, true, true, false, true, true, true, true, true, false, false, false, false, false, false] rfl rfl (any_of HT_.out (by kernel_rfl)) (fun _ _ _ h => h) (Or.inl ⟨by rfl, ?_⟩) ?_ ?_; rotate_left
                   ·intro w'; go_simp; with_reducible rfl
                   rotate_left
                   ·simp only [pS, i64_w, i32_w]; rfl
                   refine take_ (i := 5) (N := some 86) (v := ?_) (a' := ?_) #[true, true, true, true, true, true, true, true, true, true, true, false, false, false, false, false, false] rfl rfl (take_ofW HT_.out HW_.out (by kernel_rfl)) (fun _ _ _ h => h) (Or.inl ⟨by rfl, ?_⟩) hH ?_ ?_; rotate_left
                   ·rintro w' ⟨s0, s1, s2, s3, s4, s5, s6, s7, s8⟩; go_simp; with_reducible rfl
                   rotate_left
                   ·simp only [pS, i64_w, i32_w]; rfl
                   refine take_ (i := 11) (N := some 92) (v := ?_) (a' := ?_) #[true, true, true, true, true, true, true, true, true, true, true, true, false, false, false, false, false] rfl rfl (take_ofW HT_.out HW_.out (by kernel_rfl)) (fun _ _ _ h => h) (Or.inl ⟨by rfl, ?_⟩) hH ?_ ?_; rotate_left
                   ·rintro w' ⟨s0, s1, s2, s3, s4, s5, s6, s7, s8⟩; go_simp; with_reducible rfl
                   rotate_left
                   ·simp only [pS, i64_w, i32_w]; rfl
                   refine pure_ (i := 12) (N := some 93) (v := ?_) (a' := ?_) #[true, true, true, true, true, true, true, true, true, true, true, true, true, false, false, false, false] rfl rfl (any_of HT_.out (by kernel_rfl)) (fun _ _ _ h => h) (Or.inl ⟨by rfl, ?_⟩) ?_ ?_; rotate_left
                   ·intro w'; go_simp; with_reducible rfl
                   rotate_left
                   ·simp only [pS, i64_w, i32_w]; rfl
                   refine take_ (i := 13) (N := some 94) (v := ?_) (a' := ?_) #[true, true, true, true, true, true, true, true, true, true, true, true, true, true, false, false, false] rfl rfl (take_ofW HT_.out HW_.out (by kernel_rfl)) (fun _ _ _ h => h) (Or.inl ⟨by rfl, ?_⟩) hH ?_ ?_; rotate_left
                   ·rintro w' ⟨s0, s1, s2, s3, s4, s5, s6, s7, s8⟩; go_simp; with_reducible rfl
                   rotate_left
                   ·simp only [pS, i64_w, i32_w]; rfl
                   refine pure_ (i := 14) (N := some 95) (v := ?_) (a' := ?_) #[true, true, true, true, true, true, true, true, true, true, true, true, true, true, true, false, false] rfl rfl (any_of HT_.out (by kernel_rfl)) (fun _ _ _ h => h) (Or.inl ⟨by rfl, ?_⟩) ?_ ?_; rotate_left
                   ·intro w'; go_simp; with_reducible rfl
                   rotate_left
                   ·simp only [pS, i64_w, i32_w]; rfl
                   refine pure_ (i := 15) (N := some 96) (v := ?_) (a' := ?_) #[true, true, true, true, true, true, true, true, true, true, true, true, true, true, true, true, false] rfl rfl (any_of HT_.out (by kernel_rfl)) (fun _ _ _ h => h) (Or.inl ⟨by rfl, ?_⟩) ?_ ?_; rotate_left
                   ·intro w'; go_simp; with_reducible rfl
                   rotate_left
                   ·simp only [pS, i64_w, i32_w]; rfl
                   refine last_ (i := 16) (N := none) #[true, true, true, true, true, true, true, true, true, true, true, true, true, true, true, true, true] rfl rfl (one_of HT_.out (by kernel_rfl)) (by decide) (fun K hK => ?_); refine skip_ (w1 := ?_) (by rfl) rfl ?_ ?_; rotate_left
                   ·go_simp; rfl
                   refine hK.out _ _ ?_; clear hK K; refine done_ (done_of HT_.out (by kernel_rfl)) ?_; try go_wp2
                   go_roundg k4
                   case measure => have := HJ5.out; have := HJ29.out; have := HK3.out; have := HK4.out; omega
                   case rel => exact ⟨(y451), (wrap64 (x14_4 + 1)), (by first | rfl | (simp; done) | (simp [*]; done)), H', ⟨by have := HJ5.out; have := HJ29.out; have := HK3.out; have := HK4.out; omega⟩, ⟨by (with_reducible repeat (first | apply Kd.RA | apply Kd.RN | apply Kd.RD)); exact Kd.R_mono (Kd.R_far (p := ⟨go52, (((rd_T40 t442 x14_4).f0) : Int).toNat, none⟩) (Kd.R_types HO_3.out GG52.out (by decide)) (fun _ hk => hk.2) (.int .i64 (wrap64 ((rd x9_4 ((rd_T40 t442 x14_4).f0)) + 1)))) (fun _ hk => hk.1)⟩, ⟨by (with_reducible repeat (first | apply Kd.RA | apply Kd.RN | apply Kd.RD)); exact HQ56.out⟩, ⟨by (with_reducible repeat (first | apply Kd.RA | apply Kd.RN | apply Kd.RD)); exact Kd.R_mono (Kd.R_far (p := ⟨go52, (((rd_T40 t442 x14_4).f0) : Int).toNat, none⟩) (Kd.R_types HO_12.out GG52.out (by decide)) (fun _ hk => hk.2) (.int .i64 (wrap64 ((rd x9_4 ((rd_T40 t442 x14_4).f0)) + 1)))) (fun _ hk => trivial)⟩, ⟨by (with_reducible repeat (first | apply Kd.RA | apply Kd.RN | apply Kd.RD)); exact Kd.R_mono (Kd.R_far (p := ⟨go52, (((rd_T40 t442 x14_4).f0) : Int).toNat, none⟩) (Kd.R_types HO_13.out GG52.out (by decide)) (fun _ hk => hk.2) (.int .i64 (wrap64 ((rd x9_4 ((rd_T40 t442 x14_4).f0)) + 1)))) (fun _ hk => hk.1)⟩, ⟨by repeat (first | (with_reducible first | exact HB.out | apply bwA | apply pwN | apply bw1 | refine bwS ?_ GB52.out) | exact HB.out)⟩⟩
                  ·rw [if_neg c51] at H; exact absurd H (by simp)
                 ·rw [if_neg c50] at H; exact absurd H (by simp)
                ·rw [if_neg c49] at H; exact absurd H (by simp)
               ·rw [if_neg c48] at H
                have c48b0 : decide (x14_4 < (t442.length : Int)) = false := decide_eq_false c48; clear c48; have H' := Zz.mk H; clear H; obtain ⟨Ao57, co57, eo57⟩ := Kd.R_slice HO_12.out; subst eo57; go_wp2
                go_roundg k4
                case measure => have := HJ5.out; have := HJ29.out; have := HK3.out; have := HK4.out; omega
                case rel => exact ⟨(x9_4), (t443), (wrap64 (x11_3 + 1)), (by first | rfl | (simp; done) | (simp [*]; done)), H', ⟨by have := HJ5.out; have := HJ29.out; have := HK3.out; have := HK4.out; omega⟩, ⟨by (with_reducible repeat (first | apply Kd.RA | apply Kd.RN | apply Kd.RD)); exact Kd.R_mono HO_3.out (fun _ _ => trivial)⟩, ⟨by (with_reducible repeat (first | apply Kd.RA | apply Kd.RN | apply Kd.RD)); exact HO_9.out⟩, ⟨by (with_reducible repeat (first | apply Kd.RA | apply Kd.RN | apply Kd.RD)); exact Kd.R_mono HO_13.out (fun _ _ => trivial)⟩, ⟨by repeat (first | (with_reducible first | exact HB.out | apply bwA | apply pwN | apply bw1) | exact HB.out)⟩⟩
            ·rw [if_neg c44] at H
             have c44b0 : decide (x11_3 < 40) = false := decide_eq_false c44; clear c44; have H' := Zz.mk H; clear H; go_wp2
             go_loopg [15] k3 (fun kq v15 w' => ∃ (x15_4 : Int), v15 = .int .i64 x15_4 ∧ Zz (laws_FnCastAll.l2 kq t412 x9_3 x10_3 x15_4 = some r) ∧ Zz (kq ≤ k3) ∧ Zz (Kd.R k42 42 w' w.heap.size (fun _ => True) (.slice Ao8 t412.length co8) t412) ∧ Zz (Kd.R (Kd.int .i64) 3 w' w.heap.size (fun _ => True) v434 x9_3) ∧ Zz (Kd.R k42 42 w' w.heap.size (fun _ => True) u10 x10_3) ∧ Zz (Below w.heap.size w w'))
             case atStart => exact ⟨(0), (by first | rfl | (simp; done) | (simp [*]; done)), H', ⟨Nat.le_refl _⟩, ⟨by (with_reducible repeat (first | apply Kd.RA | apply Kd.RN | apply Kd.RD)); exact Kd.R_mono HO_3.out (fun _ _ => trivial)⟩, ⟨by (with_reducible repeat (first | apply Kd.RA | apply Kd.RN | apply Kd.RD)); exact HO_9.out⟩, ⟨by (with_reducible repeat (first | apply Kd.RA | apply Kd.RN | apply Kd.RD)); exact Kd.R_mono HO_10.out (fun _ _ => trivial)⟩, ⟨by repeat (first | (with_reducible first | exact HB.out | apply bwA | apply pwN | apply bw1) | exact HB.out)⟩⟩
             case round =>
              clear H'; try clear c1
              try clear c2
              try clear c2b0
              try clear c2b1
              try clear p2
              try clear c3
              try clear c4
              try clear p4
              try clear q4
              try clear hx4
              try clear c5
              try clear p5
              try clear q5
              try clear hx5
              try clear hf5
              try clear p6
              try clear c7
              try clear c9
              try clear c12
              try clear c14
              try clear c16
              try clear c17
              try clear c20
              try clear c29
              try clear c32
              try clear c35
              try clear c37
              try clear c37b0
              try clear c37b1
              try clear c38
              try clear c44
              try clear c44b0
              try clear p44
              try clear q44
              try clear hx44
              try clear p45
              try clear q45
              try clear hx45
              try clear c48
              try clear c48b0
              try clear c49
              try clear c49b0
              try clear c50
              try clear c50b0
              try clear c51
              try clear c51b0
              try clear p52
              try clear q52
              try clear hx52
              try clear hf52
              try clear hx448_0
              try clear hx448_1
              try clear hx448_2
              try clear hx448_3
              try clear hx449_0
              try clear hx449_1
              try clear hx449_2
              try clear hx449_3
              try clear hx450_0
              try clear hx52_0
              try clear p2
              try clear p448
              try clear p449
              try clear p450
              try clear p52
              try clear q448
              try clear q449
              try clear q450
              try clear q52
              obtain ⟨x15_4, rfl, HA, HK4, HO_3, HO_9, HO_10, HB⟩ := hrel; cases gk with
              | zero => exact absurd HA.out (by simp [laws_FnCastAll.l2])
              | succ k4 =>
               have H := HA.out; clear HA; simp only [laws_FnCastAll.l2] at H; by_cases c58 : x15_4 < (t412.length : Int)
               ·rw [if_pos c58] at H
                have c58b0 : decide (x15_4 < (t412.length : Int)) = true := decide_eq_true c58; clear c58; by_cases c59 : 0 ≤ x15_4
                ·rw [if_pos c59] at H
                 have c59b0 : decide (0 ≤ x15_4) = true := decide_eq_true c59; clear c59; by_cases c60 : 0 ≤ ((rd_T42 t412 x15_4).f0.f0)
                 ·rw [if_pos c60] at H
                  have c60b0 : decide (0 ≤ ((rd_T42 t412 x15_4).f0.f0)) = true := decide_eq_true c60; clear c60; by_cases c61 : ((rd_T42 t412 x15_4).f0.f0) < (x9_3.length : Int)
                  ·rw [if_pos c61] at H
                   have c61b0 : decide (((rd_T42 t412 x15_4).f0.f0) < (x9_3.length : Int)) = true := decide_eq_true c61; clear c61; by_cases c62 : (rd x9_3 ((rd_T42 t412 x15_4).f0.f0)) = ((rd_T42 t412 x15_4).f1)
                   ·rw [if_pos c62] at H
                    have c62b0 : ((rd x9_3 ((rd_T42 t412 x15_4).f0.f0)) == ((rd_T42 t412 x15_4).f1)) = true := beq_iff_eq.mpr c62; have c62b1 : ((rd x9_3 ((rd_T42 t412 x15_4).f0.f0)) != ((rd_T42 t412 x15_4).f1)) = false := bne_eq_false_iff_eq.mpr c62; clear c62; have H' := Zz.mk H; clear H; try go_wp2
                    have n0_ := Zz.mk (Kd.RD HO_3.out); have n1_ := Zz.mk (Kd.RD HO_9.out); have n2_ := Zz.mk (Kd.RD HO_10.out); have n3_ := Zz.mk (bw1 HB.out); clear HO_3; clear HO_9; clear HO_10; clear HB; have HO_3 := n0_; have HO_9 := n1_; have HO_10 := n2_; have HB := n3_; clear n0_ n1_ n2_ n3_; have p452 : 0 ≤ (x15_4 : Int) := of_decide_eq_true (by first | (with_reducible assumption) | assumption); have q452 : x15_4 < (t412.length : Int) := of_decide_eq_true (by first | (with_reducible assumption) | assumption); obtain ⟨ad452, e452, hx452_0, hx452_1, hx452_2, hx452_3, hx452_4⟩ := at_T42 (Kd.R_reads' HO_3.out).2.2 x15_4 p452 q452; cases e452
                    replace p452 := eq_true p452; replace q452 := eq_true q452; obtain ⟨Ao64, co64, eo64⟩ := Kd.R_slice HO_9.out; (first | subst eo64 | (injection eo64 with f1_ f2_ f3_; have f4_ := f1_.symm; have f5_ := f3_.symm; clear f1_ f2_ f3_; subst f4_; subst f5_))
                    have p453 : 0 ≤ (((rd_T42 t412 x15_4).f0.f0) : Int) := of_decide_eq_true (by first | (with_reducible assumption) | assumption); have q453 : ((rd_T42 t412 x15_4).f0.f0) < (x9_3.length : Int) := of_decide_eq_true (by first | (with_reducible assumption) | assumption); obtain ⟨ad453, e453, hx453_0⟩ := Kd.at_int (Kd.R_reads' HO_9.out).2.2 ((rd_T42 t412 x15_4).f0.f0) p453 q453; cases e453
                    replace p453 := eq_true p453; replace q453 := eq_true q453; have p454 : 0 ≤ (x15_4 : Int) := of_decide_eq_true (by first | (with_reducible assumption) | assumption); have q454 : x15_4 < (t412.length : Int) := of_decide_eq_true (by first | (with_reducible assumption) | assumption); obtain ⟨ad454, e454, hx454_0, hx454_1, hx454_2, hx454_3, hx454_4⟩ := at_T42 (Kd.R_reads' HO_3.out).2.2 x15_4 p454 q454; obtain rfl : ad452 = ad454 := (by injection e454)
                    replace p454 := eq_true p454; replace q454 := eq_true q454; refine start_ (n := 15) (S := fun w' => w'.cell? (ad452.add ((x15_4).toNat * 5)) = some (.int .i64 ((rd_T42 t412 x15_4).f0.f0)) ∧ w'.cell? ⟨(ad452.add ((x15_4).toNat * 5)).block, (ad452.add ((x15_4).toNat * 5)).off + 1, none⟩ = some (.int .i64 ((rd_T42 t412 x15_4).f0.f1)) ∧ w'.cell? ⟨(ad452.add ((x15_4).toNat * 5)).block, (ad452.add ((x15_4).toNat * 5)).off + 2, none⟩ = some (.int .i64 ((rd_T42 t412 x15_4).f0.f2)) ∧ w'.cell? ⟨(ad452.add ((x15_4).toNat * 5)).block, (ad452.add ((x15_4).toNat * 5)).off + 3, none⟩ = some (.bool ((rd_T42 t412 x15_4).f0.f3)) ∧ w'.cell? ⟨(ad452.add ((x15_4).toNat * 5)).block, (ad452.add ((x15_4).toNat * 5)).off + 4, none⟩ = some (.int .i64 ((rd_T42 t412 x15_4).f1)) ∧ w'.cell? (ad453.add (((rd_T42 t412 x15_4).f0.f0)).toNat) = some (.int .i64 (rd x9_3 ((rd_T42 t412 x15_4).f0.f0))) ∧ w'.cell? (ad452.add ((x15_4).toNat * 5)) = some (.int .i64 ((rd_T42 t412 x15_4).f0.f0)) ∧ w'.cell? ⟨(ad452.add ((x15_4).toNat * 5)).block, (ad452.add ((x15_4).toNat * 5)).off + 1, none⟩ = some (.int .i64 ((rd_T42 t412 x15_4).f0.f1)) ∧ w'.cell? ⟨(ad452.add ((x15_4).toNat * 5)).block, (ad452.add ((x15_4).toNat * 5)).off + 2, none⟩ = some (.int .i64 ((rd_T42 t412 x15_4).f0.f2)) ∧ w'.cell? ⟨(ad452.add ((x15_4).toNat * 5)).block, (ad452.add ((x15_4).toNat * 5)).off + 3, none⟩ = some (.bool ((rd_T42 t412 x15_4).f0.f3)) ∧ w'.cell? ⟨(ad452.add ((x15_4).toNat * 5)).block, (ad452.add ((x15_4).toNat * 5)).off + 4, none⟩ = some (.int .i64 ((rd_T42 t412 x15_4).f1))) (ds := []) #[false, false, false, false, false, false, false, false, false, false, false, false, false, false, false] (by kernel_rfl) rfl rfl ⟨hx452_0, hx452_1, hx452_2, hx452_3, hx452_4, hx453_0, hx454_0, hx454_1, hx454_2, hx454_3, hx454_4⟩ (fun hH => ?_); refine with_tabW laws_FnCastAll.tab24 laws_FnCastAll.bits24 (fun HT_ HW_ => ?_); generalize wr.drew = w63 at HO_3 HO_9 HO_10 HB hx452_0 hx452_1 hx452_2 hx452_3 hx452_4 hx453_0 hx454_0 hx454_1 hx454_2 hx454_3 hx454_4 hH ⊢; refine pure_ (i := 0) (N := some 104) (v := ?_) (a' := ?_) #[true, false, false, false, false, false, false, false, false, false, false, false, false, false, false] rfl rfl (any_of HT_.out (by kernel_rfl)) (fun _ _ _ h => h) (Or.inl ⟨by rfl, ?_⟩) ?_ ?_; rotate_left
                    ·intro w'; go_simp; with_reducible rfl
                    rotate_left
                    ·simp only [pS, i64_w, i32_w]; rfl
                    refine pure_ (i := 1) (N := some 105) (v := ?_) (a' := ?_) #[true, true, false, false, false, false, false, false, false, false, false, false, false, false, false] rfl rfl (any_of HT_.out (by kernel_rfl)) (fun _ _ _ h => h) (Or.inl ⟨by rfl, ?_⟩) ?_ ?_; rotate_left
                    ·intro w'; go_simp; with_reducible rfl
                    rotate_left
                    ·simp only [pS, i64_w, i32_w]; rfl
                    refine pure_ (i := 2) (N := some 106) (v := ?_) (a' := ?_) #[true, true, true, false, false, false, false, false, false, false, false, false, false, false, false] rfl rfl (any_of HT_.out (by kernel_rfl)) (fun _ _ _ h => h) (Or.inl ⟨by rfl, ?_⟩) ?_ ?_; rotate_left
                    ·intro w'; go_simp; with_reducible rfl
                    rotate_left
                    ·simp only [pS, i64_w, i32_w]; rfl
                    refine pure_ (i := 3) (N := some 107) (v := ?_) (a' := ?_) #[true, true, true, true, false, false, false, false, false, false, false, false, false, false, false] rfl rfl (any_of HT_.out (by kernel_rfl)) (fun _ _ _ h => h) (Or.inl ⟨by rfl, ?_⟩) ?_ ?_; rotate_left
                    ·intro w'; go_simp; with_reducible rfl
                    rotate_left
                    ·simp only [pS, i64_w, i32_w]; rfl
                    refine pure_ (i := 4) (N := some 108) (v := ?_) (a' := ?_) #[true, true, true, true, true, false, false, false, false, false, false, false, false, false, false] rfl rfl (any_of HT_.out (by kernel_rfl)) (fun _ _ _ h => h) (Or.inl ⟨by rfl, ?_⟩) ?_ ?_; rotate_left
                    ·intro w'; go_simp; with_reducible rfl
                    rotate_left
                    ·simp only [pS, i64_w, i32_w]; rfl
                    refine pure_ (i := 5) (N := some 109) (v := ?_) (a' := ?_) #[true, true, true, true, true, true, false, false, false, false, false, false, false, false, false] rfl rfl (any_of HT_.out (by kernel_rfl)) (fun _ _ _ h => h) (Or.inl ⟨by rfl, ?_⟩) ?_ ?_; rotate_left
                    ·intro w'; go_simp; with_reducible rfl
                    rotate_left
                    ·simp only [pS, i64_w, i32_w]; rfl
                    refine pure_ (i := 9) (N := some 113) (v := ?_) (a' := ?_) #[true, true, true, true, true, true, false, false, false, true, false, false, false, false, false] rfl rfl (any_of HT_.out (by kernel_rfl)) (fun _ _ _ h => h) (Or.inl ⟨by rfl, ?_⟩) ?_ ?_; rotate_left
                    ·intro w'; go_simp; with_reducible rfl
                    rotate_left
                    ·simp only [pS, i64_w, i32_w]; rfl
                    refine pure_ (i := 10) (N := some 114) (v := ?_) (a' := ?_) #[true, true, true, true, true, true, false, false, false, true, true, false, false, false, false] rfl rfl (any_of HT_.out (by kernel_rfl)) (fun _ _ _ h => h) (Or.inl ⟨by rfl, ?_⟩) ?_ ?_; rotate_left
                    ·intro w'; go_simp; with_reducible rfl
                    rotate_left
                    ·simp only [pS, i64_w, i32_w]; rfl
                    refine pure_ (i := 11) (N := some 115) (v := ?_) (a' := ?_) #[true, true, true, true, true, true, false, false, false, true, true, true, false, false, false] rfl rfl (any_of HT_.out (by kernel_rfl)) (fun _ _ _ h => h) (Or.inl ⟨by rfl, ?_⟩) ?_ ?_; rotate_left
                    ·intro w'; go_simp; with_reducible rfl
                    rotate_left
                    ·simp only [pS, i64_w, i32_w]; rfl
                    refine pure_ (i := 12) (N := some 116) (v := ?_) (a' := ?_) #[true, true, true, true, true, true, false, false, false, true, true, true, true, false, false] rfl rfl (any_of HT_.out (by kernel_rfl)) (fun _ _ _ h => h) (Or.inl ⟨by rfl, ?_⟩) ?_ ?_; rotate_left
                    ·intro w'; go_simp; with_reducible rfl
                    rotate_left
                    ·simp only [pS, i64_w, i32_w]; rfl
                    refine take_ (i := 6) (N := some 110) (v := ?_) (a' := ?_) #[true, true, true, true, true, true, true, false, false, true, true, true, true, false, false] rfl rfl (take_ofW HT_.out HW_.out (by kernel_rfl)) (fun _ _ _ h => h) (Or.inl ⟨by rfl, ?_⟩) hH ?_ ?_; rotate_left
                    ·rintro w' ⟨s0, s1, s2, s3, s4, s5, s6, s7, s8, s9, s10⟩; go_simp; with_reducible rfl
                    rotate_left
                    ·simp only [pS, i64_w, i32_w]; rfl
                    refine pure_ (i := 7) (N := some 111) (v := ?_) (a' := ?_) #[true, true, true, true, true, true, true, true, false, true, true, true, true, false, false] rfl rfl (any_of HT_.out (by kernel_rfl)) (fun _ _ _ h => h) (Or.inl ⟨by rfl, ?_⟩) ?_ ?_; rotate_left
                    ·intro w'; go_simp; with_reducible rfl
                    rotate_left
                    ·simp only [pS, i64_w, i32_w]; rfl
                    refine take_ (i := 8) (N := some 112) (v := ?_) (a' := ?_) #[true, true, true, true, true, true, true, true, true, true, true, true, true, false, false] rfl rfl (take_ofW HT_.out HW_.out (by kernel_rfl)) (fun _ _ _ h => h) (Or.inl ⟨by rfl, ?_⟩) hH ?_ ?_; rotate_left
                    ·rintro w' ⟨s0, s1, s2, s3, s4, s5, s6, s7, s8, s9, s10⟩; go_simp; with_reducible rfl
                    rotate_left
                    ·simp only [pS, i64_w, i32_w]; rfl
                    refine take_ (i := 13) (N := some 117) (v := ?_) (a' := ?_) #[true, true, true, true, true, true, true, true, true, true, true, true, true, true, false] rfl rfl (take_ofW HT_.out HW_.out (by kernel_rfl)) (fun _ _ _ h => h) (Or.inl ⟨by rfl, ?_⟩) hH ?_ ?_; rotate_left
                    ·rintro w' ⟨s0, s1, s2, s3, s4, s5, s6, s7, s8, s9, s10⟩; go_simp; with_reducible rfl
                    rotate_left
                    ·simp only [pS, i64_w, i32_w]; rfl
                    refine pure_ (i := 14) (N := some 118) (v := ?_) (a' := ?_) #[true, true, true, true, true, true, true, true, true, true, true, true, true, true, true] rfl rfl (any_of HT_.out (by kernel_rfl)) (fun _ _ _ h => h) (Or.inl ⟨by rfl, ?_⟩) ?_ ?_; rotate_left
                    ·intro w'; go_simp; with_reducible rfl
                    rotate_left
                    ·simp only [pS, i64_w, i32_w]; rfl
                    refine done_ (done_of HT_.out (by kernel_rfl)) ?_; try go_wp2
                    go_roundg k4
                    case measure => have := HJ5.out; have := HJ29.out; have := HK3.out; have := HK4.out; omega
                    case rel => exact ⟨(wrap64 (x15_4 + 1)), (by first | rfl | (simp; done) | (simp [*]; done)), H', ⟨by have := HJ5.out; have := HJ29.out; have := HK3.out; have := HK4.out; omega⟩, ⟨by (with_reducible repeat (first | apply Kd.RA | apply Kd.RN | apply Kd.RD)); exact Kd.R_mono HO_3.out (fun _ _ => trivial)⟩, ⟨by (with_reducible repeat (first | apply Kd.RA | apply Kd.RN | apply Kd.RD)); exact HO_9.out⟩, ⟨by (with_reducible repeat (first | apply Kd.RA | apply Kd.RN | apply Kd.RD)); exact Kd.R_mono HO_10.out (fun _ _ => trivial)⟩, ⟨by repeat (first | (with_reducible first | exact HB.out | apply bwA | apply pwN | apply bw1) | exact HB.out)⟩⟩
                   ·rw [if_neg c62] at H; exact absurd H (by simp)
                  ·rw [if_neg c61] at H; exact absurd H (by simp)
                 ·rw [if_neg c60] at H; exact absurd H (by simp)
                ·rw [if_neg c59] at H; exact absurd H (by simp)
               ·rw [if_neg c58] at H
                have c58b0 : decide (x15_4 < (t412.length : Int)) = false := decide_eq_false c58; clear c58; obtain rfl := Option.some.inj H; obtain ⟨Ao65, co65, eo65⟩ := Kd.R_slice HO_10.out; subst eo65; go_wp2
                go_ret
                exact ⟨by first | rfl | (simp [eN, eS] <;> rfl) | (simp [*, eN, eS] <;> rfl), by repeat (first | (with_reducible first | exact HB.out | apply bwA | apply pwN | apply bw1) | exact HB.out)⟩
         ·rw [if_neg c38] at H; exact absurd H (by simp)
        ·rw [if_neg c37] at H; exact absurd H (by simp)

/-- THE ONE PURE STATEMENT of laws_FnCastAll: yours. -/
def laws_FnCastAll.Pure : Prop := ∀ (l0 : List Int), l0.length ≤ maxLen → l0.length * 1 ≤ 140737488351232 → (∀ x ∈ l0, (Lit.int .u8 x).wf = true) → ∃ k, laws_FnCastAll.f k l0 = some true
theorem laws_FnCastAll.walk (P : laws_FnCastAll.Pure) (a0 : Option Addr) (len0 cap0 : Nat) (z0 : List Int) (w : World) (w0 : (a0 = none ∧ len0 = 0 ∧ cap0 = 0 ∧ z0 = []) ∨ ∃ x, a0 = some x ∧ len0 ≤ cap0 ∧ cap0 ≤ maxLen ∧ z0.length = cap0 ∧ (∀ i, i < z0.length → w.cell? (x.add i) = some (.int .u8 (z0.getD i 0))) ∧ ∀ n ∈ z0, (Lit.int .u8 n).wf = true) (y0 : len0 * 1 ≤ 140737488351232) :
  Calls Try.prog 4 #[.slice a0 len0 cap0] w fun e w' => e = .returned (.bool true) ∧ Below w.heap.size w w' := by
 obtain ⟨l0, rfl, hr0, hm0, hw0, hc0⟩ := ReadsInt.ofRowC w0; obtain ⟨k, h⟩ := P l0 hm0 y0 hw0; refine (laws_FnCastAll.calls k _ _ l0 true w (Kd.C_of_reads (d := (0 : Int)) (h1 := fun _ => rfl) hr0) hc0 h).mono ?_; rintro e w' ⟨rfl, hd⟩; exact ⟨rfl, hd⟩

end Go.Proofs.Ytbibieonaceolaa.PFnCastAll
