/- Functions of the program as plain functions, and that each call does what they tell. Conditions: none. -/
import Derived.Test.YtjaihhgkcdnhnaaPFnCastNewx0
import Derived.Test.YtjaihhgkcdnhnaaPFnCastNewx1
import Derived.Test.YtjaihhgkcdnhnaaPFnCastNewx3
import Derived.Test.YtjaihhgkcdnhnaaPFnCastNewx4
import Derived.Test.YtjaihhgkcdnhnaaPFnCastNewx7
import Derived.Test.YtjaihhgkcdnhnaaPFnCastNewx8
import Derived.Test.YtjaihhgkcdnhnaaPFnCastNewx11
import Derived.Test.YtjaihhgkcdnhnaaPFnCastNewx16
import Derived.Test.YtjaihhgkcdnhnaaPFnCastNewx17
namespace Go.Proofs.Ytjaihhgkcdnhnaa.PFnCastNew
open Go.RowKit Go.Proofs.YtjaihhgkcdnhnaaW.PrintWords Go.Proofs.YtjaihhgkcdnhnaaW.PrintLast Go.Proofs.YtjaihhgkcdnhnaaW.PrintMore
set_option linter.unusedVariables false
set_option linter.unusedSimpArgs false

attribute [local go_sem high] eqA30
/-! ### laws_FnCastNew: function 9 -/
mutual
def laws_FnCastNew.j0 : Nat → List (S57) → List (S57) → Bool → Int → Int → Int → Bool → Option (Bool)
 | 0, _, _, _, _, _, _, _ => none
 | k + 1, x3, x5, x33, x434000, x434001, x434002, x434003 => if x33 = true then (some false) else ((spec_CastOk.f k x3).bind fun t443 => (if t443 = true then ((spec_FactOk.f x434000 x434001 x434002 x434003).bind fun t444 => (laws_FnCastNew.j1 k x3 x5 (!t444) x434000 x434001 x434002 x434003)) else (laws_FnCastNew.j1 k x3 x5 true x434000 x434001 x434002 x434003)))
def laws_FnCastNew.j1 : Nat → List (S57) → List (S57) → Bool → Int → Int → Int → Bool → Option (Bool)
 | 0, _, _, _, _, _, _, _ => none
 | k + 1, x3, x5, x41, x434000, x434001, x434002, x434003 => if x41 = true then (some ((x5.length : Int) == 0)) else (laws_FnCastNew.l0 k x3 x5 0 0 x434000 x434001 x434002 x434003)
def laws_FnCastNew.l0 : Nat → List (S57) → List (S57) → Int → Int → Int → Int → Int → Bool → Option (Bool)
 | 0, _, _, _, _, _, _, _, _ => none
 | k + 1, x3, x5, x7, x8, x434000, x434001, x434002, x434003 => if x8 < (x5.length : Int) then (if 0 ≤ x8 then (if ((rd_T57 x5 x8).f0.f0) = x434000 then ((impl_FactOver.f k x434000 x434001 x434002 x434003 ((rd_T57 x5 x8).f0.f0) ((rd_T57 x5 x8).f0.f1) ((rd_T57 x5 x8).f0.f2) ((rd_T57 x5 x8).f0.f3)).bind fun t447 => (if t447 = true then (laws_FnCastNew.j3 k x3 x5 (wrap64 (x7 + 1)) x8 true x434000 x434001 x434002 x434003) else (if (((rd_T57 x5 x8).f0.f0) == x434000 && (((rd_T57 x5 x8).f0.f1) == x434001 && (((rd_T57 x5 x8).f0.f2) == x434002 && (((rd_T57 x5 x8).f0.f3) == x434003)))) = true then (if (x5.length : Int) > (x3.length : Int) then (laws_FnCastNew.j3 k x3 x5 (wrap64 (x7 + 1)) x8 (((rd_T57 x5 x8).f1) != 4) x434000 x434001 x434002 x434003) else (laws_FnCastNew.j3 k x3 x5 (wrap64 (x7 + 1)) x8 false x434000 x434001 x434002 x434003)) else (laws_FnCastNew.j3 k x3 x5 (wrap64 (x7 + 1)) x8 false x434000 x434001 x434002 x434003)))) else (laws_FnCastNew.l0 k x3 x5 x7 (wrap64 (x8 + 1)) x434000 x434001 x434002 x434003)) else (none)) else (if x7 = 1 then ((impl_CastOk.f k x5).bind fun t450 => (some t450)) else (some false))
def laws_FnCastNew.j3 : Nat → List (S57) → List (S57) → Int → Int → Bool → Int → Int → Int → Bool → Option (Bool)
 | 0, _, _, _, _, _, _, _, _, _ => none
 | k + 1, x3, x5, x7, x8, x92, x434000, x434001, x434002, x434003 => if x92 = true then (some false) else (laws_FnCastNew.l0 k x3 x5 x7 (wrap64 (x8 + 1)) x434000 x434001 x434002 x434003)
end
def laws_FnCastNew.f (k : Nat) (l0 : List Int) : Option (Bool) := if (l0.length : Int) > 1048576 then (some true) else ((spec_DrawCastPut.f k l0).bind fun bt426 => ((impl_CastPut.f k bt426.1 bt426.2.1 bt426.2.2.1 bt426.2.2.2.1 bt426.2.2.2.2).bind fun t434 => ((spec_CastPut.f k bt426.1 bt426.2.1 bt426.2.2.1 bt426.2.2.2.1 bt426.2.2.2.2).bind fun t437 => ((laws_lhItems.f k t434 t437).bind fun t440 => (if t440 = true then ((impl_CastOk.f k bt426.1).bind fun t441 => ((spec_CastOk.f k bt426.1).bind fun t442 => (laws_FnCastNew.j0 k bt426.1 t434 (t441 != t442) bt426.2.1 bt426.2.2.1 bt426.2.2.2.1 bt426.2.2.2.2))) else (laws_FnCastNew.j0 k bt426.1 t434 true bt426.2.1 bt426.2.2.1 bt426.2.2.2.1 bt426.2.2.2.2))))))
theorem laws_FnCastNew.mono_l : ∀ k, (∀ y0 y1 y2 y3 y4 y5 y6, LeO (laws_FnCastNew.j0 k y0 y1 y2 y3 y4 y5 y6) (laws_FnCastNew.j0 (k + 1) y0 y1 y2 y3 y4 y5 y6)) ∧ (∀ y0 y1 y2 y3 y4 y5 y6, LeO (laws_FnCastNew.j1 k y0 y1 y2 y3 y4 y5 y6) (laws_FnCastNew.j1 (k + 1) y0 y1 y2 y3 y4 y5 y6)) ∧ (∀ y0 y1 y2 y3 y4 y5 y6 y7, LeO (laws_FnCastNew.l0 k y0 y1 y2 y3 y4 y5 y6 y7) (laws_FnCastNew.l0 (k + 1) y0 y1 y2 y3 y4 y5 y6 y7)) ∧ (∀ y0 y1 y2 y3 y4 y5 y6 y7 y8, LeO (laws_FnCastNew.j3 k y0 y1 y2 y3 y4 y5 y6 y7 y8) (laws_FnCastNew.j3 (k + 1) y0 y1 y2 y3 y4 y5 y6 y7 y8))
 | 0 => ⟨fun _ _ _ _ _ _ _ r h => by simp [laws_FnCastNew.j0] at h, fun _ _ _ _ _ _ _ r h => by simp [laws_FnCastNew.j1] at h, fun _ _ _ _ _ _ _ _ r h => by simp [laws_FnCastNew.l0] at h, fun _ _ _ _ _ _ _ _ _ r h => by simp [laws_FnCastNew.j3] at h⟩
 | k + 1 => by
  obtain ⟨ih0, ih1, ih2, ih3⟩ := laws_FnCastNew.mono_l k; refine ⟨?_, ?_, ?_, ?_⟩
  ·intro y0 y1 y2 y3 y4 y5 y6
   unfold laws_FnCastNew.j0; repeat' first
   | (with_reducible exact ih0 _ _ _ _ _ _ _)
   | (with_reducible exact ih1 _ _ _ _ _ _ _)
   | (with_reducible exact ih2 _ _ _ _ _ _ _ _)
   | (with_reducible exact ih3 _ _ _ _ _ _ _ _ _)
   | (with_reducible exact impl_CastOk.mono _ _)
   | (with_reducible exact impl_CastPut.mono _ _ _ _ _ _)
   | (with_reducible exact impl_FactOver.mono _ _ _ _ _ _ _ _ _)
   | (with_reducible exact laws_lhItems.mono _ _ _)
   | (with_reducible exact spec_CastOk.mono _ _)
   | (with_reducible exact spec_CastPut.mono _ _ _ _ _ _)
   | (with_reducible exact spec_DrawCastPut.mono _ _)
   | (with_reducible exact LeO.refl _)
   | (with_reducible exact LeO.none _)
   | (with_reducible refine LeO.ite ?_ ?_)
   | (with_reducible refine LeO.bind ?_ (fun _ => ?_))
   | exact ih0 _ _ _ _ _ _ _
   | exact ih1 _ _ _ _ _ _ _
   | exact ih2 _ _ _ _ _ _ _ _
   | exact ih3 _ _ _ _ _ _ _ _ _
   | exact impl_CastOk.mono _ _
   | exact impl_CastPut.mono _ _ _ _ _ _
   | exact impl_FactOver.mono _ _ _ _ _ _ _ _ _
   | exact laws_lhItems.mono _ _ _
   | exact spec_CastOk.mono _ _
   | exact spec_CastPut.mono _ _ _ _ _ _
   | exact spec_DrawCastPut.mono _ _
   | exact LeO.none _
   | refine LeO.ite ?_ ?_
   | refine LeO.bind ?_ (fun _ => ?_)
  ·intro y0 y1 y2 y3 y4 y5 y6
   unfold laws_FnCastNew.j1; repeat' first
   | (with_reducible exact ih0 _ _ _ _ _ _ _)
   | (with_reducible exact ih1 _ _ _ _ _ _ _)
   | (with_reducible exact ih2 _ _ _ _ _ _ _ _)
   | (with_reducible exact ih3 _ _ _ _ _ _ _ _ _)
   | (with_reducible exact impl_CastOk.mono _ _)
   | (with_reducible exact impl_CastPut.mono _ _ _ _ _ _)
   | (with_reducible exact impl_FactOver.mono _ _ _ _ _ _ _ _ _)
   | (with_reducible exact laws_lhItems.mono _ _ _)
   | (with_reducible exact spec_CastOk.mono _ _)
   | (with_reducible exact spec_CastPut.mono _ _ _ _ _ _)
   | (with_reducible exact spec_DrawCastPut.mono _ _)
   | (with_reducible exact LeO.refl _)
   | (with_reducible exact LeO.none _)
   | (with_reducible refine LeO.ite ?_ ?_)
   | (with_reducible refine LeO.bind ?_ (fun _ => ?_))
   | exact ih0 _ _ _ _ _ _ _
   | exact ih1 _ _ _ _ _ _ _
   | exact ih2 _ _ _ _ _ _ _ _
   | exact ih3 _ _ _ _ _ _ _ _ _
   | exact impl_CastOk.mono _ _
   | exact impl_CastPut.mono _ _ _ _ _ _
   | exact impl_FactOver.mono _ _ _ _ _ _ _ _ _
   | exact laws_lhItems.mono _ _ _
   | exact spec_CastOk.mono _ _
   | exact spec_CastPut.mono _ _ _ _ _ _
   | exact spec_DrawCastPut.mono _ _
   | exact LeO.none _
   | refine LeO.ite ?_ ?_
   | refine LeO.bind ?_ (fun _ => ?_)
  ·intro y0 y1 y2 y3 y4 y5 y6 y7
   unfold laws_FnCastNew.l0; repeat' first
   | (with_reducible exact ih0 _ _ _ _ _ _ _)
   | (with_reducible exact ih1 _ _ _ _ _ _ _)
   | (with_reducible exact ih2 _ _ _ _ _ _ _ _)
   | (with_reducible exact ih3 _ _ _ _ _ _ _ _ _)
   | (with_reducible exact impl_CastOk.mono _ _)
   | (with_reducible exact impl_CastPut.mono _ _ _ _ _ _)
   | (with_reducible exact impl_FactOver.mono _ _ _ _ _ _ _ _ _)
   | (with_reducible exact laws_lhItems.mono _ _ _)
   | (with_reducible exact spec_CastOk.mono _ _)
   | (with_reducible exact spec_CastPut.mono _ _ _ _ _ _)
   | (with_reducible exact spec_DrawCastPut.mono _ _)
   | (with_reducible exact LeO.refl _)
   | (with_reducible exact LeO.none _)
   | (with_reducible refine LeO.ite ?_ ?_)
   | (with_reducible refine LeO.bind ?_ (fun _ => ?_))
   | exact ih0 _ _ _ _ _ _ _
   | exact ih1 _ _ _ _ _ _ _
   | exact ih2 _ _ _ _ _ _ _ _
   | exact ih3 _ _ _ _ _ _ _ _ _
   | exact impl_CastOk.mono _ _
   | exact impl_CastPut.mono _ _ _ _ _ _
   | exact impl_FactOver.mono _ _ _ _ _ _ _ _ _
   | exact laws_lhItems.mono _ _ _
   | exact spec_CastOk.mono _ _
   | exact spec_CastPut.mono _ _ _ _ _ _
   | exact spec_DrawCastPut.mono _ _
   | exact LeO.none _
   | refine LeO.ite ?_ ?_
   | refine LeO.bind ?_ (fun _ => ?_)
  ·intro y0 y1 y2 y3 y4 y5 y6 y7 y8
   unfold laws_FnCastNew.j3; repeat' first
   | (with_reducible exact ih0 _ _ _ _ _ _ _)
   | (with_reducible exact ih1 _ _ _ _ _ _ _)
   | (with_reducible exact ih2 _ _ _ _ _ _ _ _)
   | (with_reducible exact ih3 _ _ _ _ _ _ _ _ _)
   | (with_reducible exact impl_CastOk.mono _ _)
   | (with_reducible exact impl_CastPut.mono _ _ _ _ _ _)
   | (with_reducible exact impl_FactOver.mono _ _ _ _ _ _ _ _ _)
   | (with_reducible exact laws_lhItems.mono _ _ _)
   | (with_reducible exact spec_CastOk.mono _ _)
   | (with_reducible exact spec_CastPut.mono _ _ _ _ _ _)
   | (with_reducible exact spec_DrawCastPut.mono _ _)
   | (with_reducible exact LeO.refl _)
   | (with_reducible exact LeO.none _)
   | (with_reducible refine LeO.ite ?_ ?_)
   | (with_reducible refine LeO.bind ?_ (fun _ => ?_))
   | exact ih0 _ _ _ _ _ _ _
   | exact ih1 _ _ _ _ _ _ _
   | exact ih2 _ _ _ _ _ _ _ _
   | exact ih3 _ _ _ _ _ _ _ _ _
   | exact impl_CastOk.mono _ _
   | exact impl_CastPut.mono _ _ _ _ _ _
   | exact impl_FactOver.mono _ _ _ _ _ _ _ _ _
   | exact laws_lhItems.mono _ _ _
   | exact spec_CastOk.mono _ _
   | exact spec_CastPut.mono _ _ _ _ _ _
   | exact spec_DrawCastPut.mono _ _
   | exact LeO.none _
   | refine LeO.ite ?_ ?_
   | refine LeO.bind ?_ (fun _ => ?_)
theorem laws_FnCastNew.mono : ∀ a0 k, LeO (laws_FnCastNew.f k a0) (laws_FnCastNew.f (k + 1) a0) := by
 intro a0 k; obtain ⟨ih0, ih1, ih2, ih3⟩ := laws_FnCastNew.mono_l k; unfold laws_FnCastNew.f
 repeat' first
   | (with_reducible exact ih0 _ _ _ _ _ _ _)
   | (with_reducible exact ih1 _ _ _ _ _ _ _)
   | (with_reducible exact ih2 _ _ _ _ _ _ _ _)
   | (with_reducible exact ih3 _ _ _ _ _ _ _ _ _)
   | (with_reducible exact impl_CastOk.mono _ _)
   | (with_reducible exact impl_CastPut.mono _ _ _ _ _ _)
   | (with_reducible exact impl_FactOver.mono _ _ _ _ _ _ _ _ _)
   | (with_reducible exact laws_lhItems.mono _ _ _)
   | (with_reducible exact spec_CastOk.mono _ _)
   | (with_reducible exact spec_CastPut.mono _ _ _ _ _ _)
   | (with_reducible exact spec_DrawCastPut.mono _ _)
   | (with_reducible exact LeO.refl _)
   | (with_reducible exact LeO.none _)
   | (with_reducible refine LeO.ite ?_ ?_)
   | (with_reducible refine LeO.bind ?_ (fun _ => ?_))
   | exact ih0 _ _ _ _ _ _ _
   | exact ih1 _ _ _ _ _ _ _
   | exact ih2 _ _ _ _ _ _ _ _
   | exact ih3 _ _ _ _ _ _ _ _ _
   | exact impl_CastOk.mono _ _
   | exact impl_CastPut.mono _ _ _ _ _ _
   | exact impl_FactOver.mono _ _ _ _ _ _ _ _ _
   | exact laws_lhItems.mono _ _ _
   | exact spec_CastOk.mono _ _
   | exact spec_CastPut.mono _ _ _ _ _ _
   | exact spec_DrawCastPut.mono _ _
   | exact LeO.none _
   | refine LeO.ite ?_ ?_
   | refine LeO.bind ?_ (fun _ => ?_)
def laws_FnCastNew.T14 : Bool × List (List Nat × List Nat) := (true, [([], []), ([], []), ([0, 1], [0, 1]), ([2], [2]), ([3], [3]), ([4], [4]), ([], []), ([6], [6]), ([5, 7], [5, 7])])
def laws_FnCastNew.B14 : List Nat := [0, 0, 3, 7, 15, 31, 0, 64, 255]
theorem laws_FnCastNew.tab14 : rtab .any (opsOf Try.f9 14) = laws_FnCastNew.T14 := by kernel_rfl
theorem laws_FnCastNew.bits14 : waitsOk laws_FnCastNew.T14.2 laws_FnCastNew.B14 = true := by kernel_rfl
def laws_FnCastNew.T16 : Bool × List (List Nat × List Nat) := (true, [([], []), ([], []), ([], []), ([1, 2], [1, 2]), ([3], [3]), ([4], [4]), ([0, 5], [0, 5]), ([6, 6], [6]), ([7], [7]), ([7], [7]), ([8, 9, 7], [7, 8, 9]), ([10, 7], [7, 10]), ([11, 7], [7, 11]), ([7], [7]), ([12, 13, 7], [7, 12, 13]), ([14, 7, 7], [7, 14]), ([15], [15]), ([16, 15], [15, 16]), ([15], [15]), ([18, 15], [15, 18]), ([17, 19, 15], [15, 17, 19]), ([15, 20, 7], [7, 15, 20]), ([21, 15, 7], [7, 21]), ([22], [22]), ([22], [22]), ([23, 24, 22], [22, 23, 24]), ([25, 22], [22, 25]), ([26, 22], [22, 26]), ([27, 22], [22, 27]), ([22, 28, 7], [7, 22, 28]), ([7, 29], [7, 29])])
def laws_FnCastNew.B16 : List Nat := [0, 0, 0, 6, 14, 30, 63, 127, 255, 255, 1023, 2047, 4095, 255, 16383, 32767, 65535, 131071, 65535, 327679, 1048575, 2097151, 4194303, 8388607, 8388607, 33554431, 67108863, 134217727, 268435455, 536870911, 1073741823]
theorem laws_FnCastNew.tab16 : rtab .any (opsOf Try.f9 16) = laws_FnCastNew.T16 := by kernel_rfl
theorem laws_FnCastNew.bits16 : waitsOk laws_FnCastNew.T16.2 laws_FnCastNew.B16 = true := by kernel_rfl
set_option maxHeartbeats 8000000 in
set_option maxRecDepth 100000 in
theorem laws_FnCastNew.calls (k : Nat) (A0 : Option Addr) (c0 : Nat) (l0 : List Int) (r : Bool) (w : World) (hr0 : Kd.C (Kd.int .u8) w A0 l0.length l0) (hc0 : l0.length ≤ c0) (h : laws_FnCastNew.f k l0 = some r) :
  Calls Try.prog 9 #[.slice A0 l0.length c0] w fun e w' => e = .returned (.bool r) ∧ Below w.heap.size w w' := by
 have hu30 := Try.underlying30; have HR0 := Zz.mk hr0; have HC0 := Zz.mk hc0; clear hr0 hc0; have HB := Zz.mk (Below.refl w.heap.size w); have H : (if (l0.length : Int) > 1048576 then (some true) else ((spec_DrawCastPut.f k l0).bind fun bt426 => ((impl_CastPut.f k bt426.1 bt426.2.1 bt426.2.2.1 bt426.2.2.2.1 bt426.2.2.2.2).bind fun t434 => ((spec_CastPut.f k bt426.1 bt426.2.1 bt426.2.2.1 bt426.2.2.2.1 bt426.2.2.2.2).bind fun t437 => ((laws_lhItems.f k t434 t437).bind fun t440 => (if t440 = true then ((impl_CastOk.f k bt426.1).bind fun t441 => ((spec_CastOk.f k bt426.1).bind fun t442 => (laws_FnCastNew.j0 k bt426.1 t434 (t441 != t442) bt426.2.1 bt426.2.2.1 bt426.2.2.2.1 bt426.2.2.2.2))) else (laws_FnCastNew.j0 k bt426.1 t434 true bt426.2.1 bt426.2.2.1 bt426.2.2.2.1 bt426.2.2.2.2))))))) = some r := h; clear h; by_cases c2 : (l0.length : Int) > 1048576
 ·rw [if_pos c2] at H
  have c2b0 : decide (1048576 < (l0.length : Int)) = true := decide_eq_true c2; have c2b1 : decide (1048576 < l0.length) = true := decide_eq_true (by omega); clear c2; obtain rfl := Option.some.inj H; go_enter Try.func9, Try.ntmps9; go_wp2
  go_ret
  exact ⟨by first | rfl | (simp [eN, eS] <;> rfl) | (simp [*, eN, eS] <;> rfl), by repeat (first | (with_reducible first | exact HB.out | apply bwA | apply pwN | apply bw1) | exact HB.out)⟩
 ·rw [if_neg c2] at H
  have c2b0 : decide (1048576 < (l0.length : Int)) = false := decide_eq_false c2; have c2b1 : decide (1048576 < l0.length) = false := decide_eq_false (by omega); clear c2; replace H := Option.bind_eq_some_iff.mp H; obtain ⟨⟨t426, t429, t430, t431, t432⟩, A30, H⟩ := H; replace H : ((impl_CastPut.f k t426 t429 t430 t431 t432).bind fun t434 => ((spec_CastPut.f k t426 t429 t430 t431 t432).bind fun t437 => ((laws_lhItems.f k t434 t437).bind fun t440 => (if t440 = true then ((impl_CastOk.f k t426).bind fun t441 => ((spec_CastOk.f k t426).bind fun t442 => (laws_FnCastNew.j0 k t426 t434 (t441 != t442) t429 t430 t431 t432))) else (laws_FnCastNew.j0 k t426 t434 true t429 t430 t431 t432))))) = some r := H; have A3 := Zz.mk A30; clear A30; replace H := Option.bind_eq_some_iff.mp H; obtain ⟨t434, A40, H⟩ := H; replace H : ((spec_CastPut.f k t426 t429 t430 t431 t432).bind fun t437 => ((laws_lhItems.f k t434 t437).bind fun t440 => (if t440 = true then ((impl_CastOk.f k t426).bind fun t441 => ((spec_CastOk.f k t426).bind fun t442 => (laws_FnCastNew.j0 k t426 t434 (t441 != t442) t429 t430 t431 t432))) else (laws_FnCastNew.j0 k t426 t434 true t429 t430 t431 t432)))) = some r := H; have A4 := Zz.mk A40; clear A40; replace H := Option.bind_eq_some_iff.mp H; obtain ⟨t437, A50, H⟩ := H; replace H : ((laws_lhItems.f k t434 t437).bind fun t440 => (if t440 = true then ((impl_CastOk.f k t426).bind fun t441 => ((spec_CastOk.f k t426).bind fun t442 => (laws_FnCastNew.j0 k t426 t434 (t441 != t442) t429 t430 t431 t432))) else (laws_FnCastNew.j0 k t426 t434 true t429 t430 t431 t432))) = some r := H; have A5 := Zz.mk A50; clear A50; have HC6 := Zz.mk H; clear H; go_enter Try.func9, Try.ntmps9; go_upto_region 6 with (first | ((with_reducible refine gate_callee (f := 35) rfl ?_); refine goesL_ (some 14) rfl rfl Try.func35 (by kernel_rfl) rfl #[.slice A0 l0.length c0] rfl (by (try simp only [List.map_toArray, List.map_cons, List.map_nil]); first | done | rfl | (simp only [List.length_drop, List.length_take]; rfl)) ?_; (with_reducible refine (spec_DrawCastPut.calls k _ _ l0 t426 t429 t430 t431 t432 _ ?side1 ?side2 A3.out).mono ?_); (case side1 => repeat (first | exact HR0.out | (with_reducible refine Kd.CA ?_ _) | (with_reducible refine Kd.CN ?_ _) | (with_reducible refine Kd.CD ?_))); (case side2 => exact HC0.out); rintro e w7 ⟨v427, rfl, ho0, hb⟩; refine ⟨_, rfl, ?_⟩; have n0_ := Zz.mk (Kd.R_lower ho0 (bwZ (by repeat (first | (with_reducible first | exact HB.out | apply bwA | apply pwN | apply bw1) | exact HB.out)))); have n1_ := Zz.mk (bwP (by repeat (first | (with_reducible first | exact HB.out | apply bwA | apply pwN | apply bw1) | exact HB.out)) hb); clear HB; have HO428 := n0_; have HB := n1_; clear n0_ n1_; (try clear hb); (try clear ho0); (try clear A3)) | ((with_reducible refine gate_dst (N := 4) rfl ?_); (try (refine gate_guard (by rfl) ?_; dsimp only)); refine box_event ?hg (N := 4) ?hd (cs := #[.int .i64 0, .int .i64 0, .int .i64 0, .bool false]) (t := 30) ?hr ?_; (case hd => rfl); (case hg => rfl); (case hr => first | (go_simp; done) | (go_simp; rfl)); intro gb433 hg w8 hbox hb; have n0_ := Zz.mk (Kd.R_below (by (with_reducible repeat (first | apply Kd.RA | apply Kd.RN | apply Kd.RD)); exact HO428.out) hb); have n1_ := Zz.mk (bwP (by repeat (first | (with_reducible first | exact HB.out | apply bwA | apply pwN | apply bw1) | exact HB.out)) hb); have n2_ := Zz.mk (hbox); have n3_ := Zz.mk ((by rw [hg]; exact (bwZ (by repeat (first | (with_reducible first | exact HB.out | apply bwA | apply pwN | apply bw1) | exact HB.out))) : w.heap.size ≤ gb433)); have n4_ := Zz.mk ((by rw [hg]; exact (bwZ (by repeat (first | (with_reducible first | exact HB.out | apply bwA | apply pwN | apply bw1) | exact HB.out))) : w.heap.size ≤ gb433)); clear HO428; clear HB; have HO428 := n0_; have HB := n1_; have BK433 := n2_; have GW433 := n3_; have GE433 := n4_; clear n0_ n1_ n2_ n3_ n4_; clear hb hbox hg; have hcz9_0 : w8.cell? ⟨gb433, 0, none⟩ = some (.int .i64 0) := (bkC BK433.out 0).trans rfl; have hcz9_1 : w8.cell? ⟨gb433, 1, none⟩ = some (.int .i64 0) := (bkC BK433.out 1).trans rfl; have hcz9_2 : w8.cell? ⟨gb433, 2, none⟩ = some (.int .i64 0) := (bkC BK433.out 2).trans rfl; have hcz9_3 : w8.cell? ⟨gb433, 3, none⟩ = some (.bool false) := (bkC BK433.out 3).trans rfl; have hfz9_0 := bkF BK433.out 0; have hfz9_1 := bkF BK433.out 1; have hfz9_2 := bkF BK433.out 2; have hfz9_3 := bkF BK433.out 3; obtain ⟨Ao10, co10, eo10⟩ := Kd.R_slice HO428.out; subst eo10) | ((with_reducible refine gate_callee (f := 32) rfl ?_); refine goesL_ (some 19) rfl rfl Try.func32 (by kernel_rfl) rfl #[.slice Ao10 t426.length co10, .agg #[.int .i64 t429, .int .i64 t430, .int .i64 t431, .bool t432]] rfl (by (try simp only [List.map_toArray, List.map_cons, List.map_nil]); first | done | rfl | (simp only [List.length_drop, List.length_take]; rfl)) ?_; (with_reducible refine (impl_CastPut.calls k _ _ t426 t429 t430 t431 t432 t434 _ ?side1 ?side2 A4.out).mono ?_); (case side1 => refine (Kd.R_reads' (e := 57) (base := w.heap.size) (ok := fun k_ => True) (n := t426.length) (c := co10) ?_).2.2; exact (by (with_reducible repeat (first | apply Kd.RA | apply Kd.RN | apply Kd.RD)); exact (Kd.R_mono (Kd.R_far (p := ⟨gb433, 3, none⟩) (Kd.R_far (p := ⟨gb433, 2, none⟩) (Kd.R_far (p := ⟨gb433, 1, none⟩) (Kd.R_far (p := ⟨gb433, 0, none⟩) (Kd.R_types HO428.out BK433.out (by decide)) (fun _ hk => hk.2) (.int .i64 t429)) (fun _ hk => hk.2) (.int .i64 t430)) (fun _ hk => hk.2) (.int .i64 t431)) (fun _ hk => hk.2) (.bool t432)) (fun _ h_ => h_.1)))); (case side2 => exact (Kd.R_reads' HO428.out).2.1); rintro e w11 ⟨v435, rfl, ho0, hb⟩; refine ⟨_, rfl, ?_⟩; have n0_ := Zz.mk (Kd.R_elder' (by (with_reducible repeat (first | apply Kd.RA | apply Kd.RN | apply Kd.RD)); exact (Kd.R_mono (Kd.R_far (p := ⟨gb433, 3, none⟩) (Kd.R_far (p := ⟨gb433, 2, none⟩) (Kd.R_far (p := ⟨gb433, 1, none⟩) (Kd.R_far (p := ⟨gb433, 0, none⟩) (Kd.R_types HO428.out BK433.out (by decide)) (fun _ hk => hk.2) (.int .i64 t429)) (fun _ hk => hk.2) (.int .i64 t430)) (fun _ hk => hk.2) (.int .i64 t431)) (fun _ hk => hk.2) (.bool t432)) (fun _ h_ => h_.1))) (Kd.R_base ho0) hb); have n1_ := Zz.mk (Kd.R_lower (Kd.R_new' ho0 (Kd.R_lt (by (with_reducible repeat (first | apply Kd.RA | apply Kd.RN | apply Kd.RD)); exact (Kd.R_mono (Kd.R_far (p := ⟨gb433, 3, none⟩) (Kd.R_far (p := ⟨gb433, 2, none⟩) (Kd.R_far (p := ⟨gb433, 1, none⟩) (Kd.R_far (p := ⟨gb433, 0, none⟩) (Kd.R_types HO428.out BK433.out (by decide)) (fun _ hk => hk.2) (.int .i64 t429)) (fun _ hk => hk.2) (.int .i64 t430)) (fun _ hk => hk.2) (.int .i64 t431)) (fun _ hk => hk.2) (.bool t432)) (fun _ h_ => h_.1))))) (bwZ (by repeat (first | (with_reducible first | exact HB.out | apply bwA | apply pwN | apply bw1 | refine bwS ?_ GE433.out) | exact HB.out)))); have n2_ := Zz.mk (bkB (g := gb433) (o := .cells #[.int .i64 t429, .int .i64 t430, .int .i64 t431, .bool t432] 30 (0, 0)) (by (with_reducible repeat (first | refine bkN ?_ _ | refine bkD ?_ | refine bkA ?_ _)); refine blk_put (cs := #[.int .i64 t429, .int .i64 t430, .int .i64 t431, .bool false]) ?_ 3 _ rfl; (with_reducible repeat (first | refine bkN ?_ _ | refine bkD ?_ | refine bkA ?_ _)); refine blk_put (cs := #[.int .i64 t429, .int .i64 t430, .int .i64 0, .bool false]) ?_ 2 _ rfl; (with_reducible repeat (first | refine bkN ?_ _ | refine bkD ?_ | refine bkA ?_ _)); refine blk_put (cs := #[.int .i64 t429, .int .i64 0, .int .i64 0, .bool false]) ?_ 1 _ rfl; (with_reducible repeat (first | refine bkN ?_ _ | refine bkD ?_ | refine bkA ?_ _)); refine blk_put (cs := #[.int .i64 0, .int .i64 0, .int .i64 0, .bool false]) ?_ 0 _ rfl; (with_reducible repeat (first | refine bkN ?_ _ | refine bkD ?_ | refine bkA ?_ _)); exact BK433.out) hb); have n3_ := Zz.mk (bwP (by repeat (first | (with_reducible first | exact HB.out | apply bwA | apply pwN | apply bw1 | refine bwS ?_ GE433.out) | exact HB.out)) hb); clear HO428; clear BK433; clear HB; have HO428 := n0_; have HO436 := n1_; have BK433 := n2_; have HB := n3_; clear n0_ n1_ n2_ n3_; (try clear hb); (try clear ho0); (try clear A4); have hcz12_0 : w11.cell? ⟨gb433, 0, none⟩ = some (.int .i64 t429) := (bkC BK433.out 0).trans rfl; have hcz12_1 : w11.cell? ⟨gb433, 1, none⟩ = some (.int .i64 t430) := (bkC BK433.out 1).trans rfl; have hcz12_2 : w11.cell? ⟨gb433, 2, none⟩ = some (.int .i64 t431) := (bkC BK433.out 2).trans rfl; have hcz12_3 : w11.cell? ⟨gb433, 3, none⟩ = some (.bool t432) := (bkC BK433.out 3).trans rfl; have hfz12_0 := bkF BK433.out 0; have hfz12_1 := bkF BK433.out 1; have hfz12_2 := bkF BK433.out 2; have hfz12_3 := bkF BK433.out 3) | ((with_reducible refine gate_callee (f := 31) rfl ?_); refine goesL_ (some 22) rfl rfl Try.func31 (by kernel_rfl) rfl #[.slice Ao10 t426.length co10, .agg #[.int .i64 t429, .int .i64 t430, .int .i64 t431, .bool t432]] rfl (by (try simp only [List.map_toArray, List.map_cons, List.map_nil]); first | done | rfl | (simp only [List.length_drop, List.length_take]; rfl)) ?_; (with_reducible refine (spec_CastPut.calls k _ _ t426 t429 t430 t431 t432 t437 _ ?side1 ?side2 A5.out).mono ?_); (case side1 => repeat (first | exact (Kd.R_reads' HO428.out).2.2 | (with_reducible refine Kd.CA ?_ _) | (with_reducible refine Kd.CN ?_ _) | (with_reducible refine Kd.CD ?_))); (case side2 => exact (Kd.R_reads' HO428.out).2.1); rintro e w13 ⟨v438, rfl, ho0, hb⟩; refine ⟨_, rfl, ?_⟩; have n0_ := Zz.mk (Kd.R_elder' (by (with_reducible repeat (first | apply Kd.RA | apply Kd.RN | apply Kd.RD)); exact HO428.out) (Kd.R_base ho0) hb); have n1_ := Zz.mk (Kd.R_elder' (by (with_reducible repeat (first | apply Kd.RA | apply Kd.RN | apply Kd.RD)); exact HO436.out) (Kd.R_base ho0) hb); have n2_ := Zz.mk (Kd.R_lower (Kd.R_new' (Kd.R_new' ho0 (Kd.R_lt (by (with_reducible repeat (first | apply Kd.RA | apply Kd.RN | apply Kd.RD)); exact HO428.out))) (Kd.R_lt (by (with_reducible repeat (first | apply Kd.RA | apply Kd.RN | apply Kd.RD)); exact HO436.out))) (bwZ (by repeat (first | (with_reducible first | exact HB.out | apply bwA | apply pwN | apply bw1 | refine bwS ?_ GE433.out) | exact HB.out)))); have n3_ := Zz.mk (bkB (g := gb433) (o := .cells #[.int .i64 t429, .int .i64 t430, .int .i64 t431, .bool t432] 30 (0, 0)) (by (with_reducible repeat (first | refine bkN ?_ _ | refine bkD ?_ | refine bkA ?_ _)); exact BK433.out) hb); have n4_ := Zz.mk (bwP (by repeat (first | (with_reducible first | exact HB.out | apply bwA | apply pwN | apply bw1 | refine bwS ?_ GE433.out) | exact HB.out)) hb); clear HO428; clear HO436; clear BK433; clear HB; have HO428 := n0_; have HO436 := n1_; have HO439 := n2_; have BK433 := n3_; have HB := n4_; clear n0_ n1_ n2_ n3_ n4_; (try clear hb); (try clear ho0); (try clear A5)))
  (try simp only [Act.put, List.setIfInBounds_toArray, List.set_cons_zero, List.set_cons_succ])
  go_cut [33] (fun v33 wc => ∃ (kq : Nat) (x33_5 : Bool), v33 = .bool x33_5 ∧ Zz (laws_FnCastNew.j0 kq t426 t434 x33_5 t429 t430 t431 t432 = some r) ∧ Zz (kq ≤ k) ∧ Zz (Kd.R k57 57 wc w.heap.size (fun k_ => some k_ ≠ (v435 : Value).ownBlock) (.slice Ao10 t426.length co10) t426) ∧ Zz (Kd.R k57 57 wc w.heap.size (fun k_ => some k_ ≠ ((.slice Ao10 t426.length co10) : Value).ownBlock) v435 t434) ∧ Zz (wc.heap[gb433]? = some (.cells #[.int .i64 t429, .int .i64 t430, .int .i64 t431, .bool t432] 30 (0, 0))) ∧ Zz (Below w.heap.size w wc))
  case first =>
   have H := HC6.out; clear HC6; replace H := Option.bind_eq_some_iff.mp H; obtain ⟨t440, A140, H⟩ := H; replace H : (if t440 = true then ((impl_CastOk.f k t426).bind fun t441 => ((spec_CastOk.f k t426).bind fun t442 => (laws_FnCastNew.j0 k t426 t434 (t441 != t442) t429 t430 t431 t432))) else (laws_FnCastNew.j0 k t426 t434 true t429 t430 t431 t432)) = some r := H; have A14 := Zz.mk A140; clear A140; by_cases c15 : t440 = true
   ·subst c15
    have H1 : ((impl_CastOk.f k t426).bind fun t441 => ((spec_CastOk.f k t426).bind fun t442 => (laws_FnCastNew.j0 k t426 t434 (t441 != t442) t429 t430 t431 t432))) = some r := by rw [if_pos rfl] at H; exact H
    clear H; have H := H1; clear H1; replace H := Option.bind_eq_some_iff.mp H; obtain ⟨t441, A160, H⟩ := H; replace H : ((spec_CastOk.f k t426).bind fun t442 => (laws_FnCastNew.j0 k t426 t434 (t441 != t442) t429 t430 t431 t432)) = some r := H; have A16 := Zz.mk A160; clear A160; replace H := Option.bind_eq_some_iff.mp H; obtain ⟨t442, A170, H⟩ := H; replace H : (laws_FnCastNew.j0 k t426 t434 (t441 != t442) t429 t430 t431 t432) = some r := H; have A17 := Zz.mk A170; clear A170; have H' := Zz.mk H; clear H; obtain ⟨Ao18, co18, eo18⟩ := Kd.R_slice HO436.out; subst eo18; obtain ⟨Ao19, co19, eo19⟩ := Kd.R_slice HO439.out; subst eo19; go_wp2_with (first | ((with_reducible refine gate_callee (f := 36) rfl ?_); refine goesL_ (some 25) rfl rfl Try.func36 (by kernel_rfl) rfl #[.slice Ao18 t434.length co18, .slice Ao19 t437.length co19] rfl (by (try simp only [List.map_toArray, List.map_cons, List.map_nil]); first | done | rfl | (simp only [List.length_drop, List.length_take]; rfl)) ?_; (with_reducible refine (laws_lhItems.calls k _ _ t434 _ _ t437 true _ ?side1 ?side2 ?side3 ?side4 A14.out).mono ?_); (case side1 => repeat (first | exact (Kd.R_reads' HO436.out).2.2 | (with_reducible refine Kd.CA ?_ _) | (with_reducible refine Kd.CN ?_ _) | (with_reducible refine Kd.CD ?_))); (case side2 => exact (Kd.R_reads' HO436.out).2.1); (case side3 => repeat (first | exact (Kd.R_reads' HO439.out).2.2 | (with_reducible refine Kd.CA ?_ _) | (with_reducible refine Kd.CN ?_ _) | (with_reducible refine Kd.CD ?_))); (case side4 => exact (Kd.R_reads' HO439.out).2.1); rintro e w' ⟨rfl, ⟨nd, rfl⟩⟩; refine ⟨_, rfl, ?_⟩; (try clear A14)) | (go_at_call 29; (with_reducible refine (impl_CastOk.calls k _ _ t426 t441 _ ?side1 ?side2 A16.out).mono ?_); (case side1 => repeat (first | exact (Kd.R_reads' HO428.out).2.2 | (with_reducible refine Kd.CA ?_ _) | (with_reducible refine Kd.CN ?_ _) | (with_reducible refine Kd.CD ?_))); (case side2 => exact (Kd.R_reads' HO428.out).2.1); rintro e w20 ⟨rfl, hb⟩; have n0_ := Zz.mk (Kd.R_below (by (with_reducible repeat (first | apply Kd.RA | apply Kd.RN | apply Kd.RD)); exact HO428.out) hb); have n1_ := Zz.mk (Kd.R_below (by (with_reducible repeat (first | apply Kd.RA | apply Kd.RN | apply Kd.RD)); exact HO436.out) hb); have n2_ := Zz.mk (Kd.R_below (by (with_reducible repeat (first | apply Kd.RA | apply Kd.RN | apply Kd.RD)); exact HO439.out) hb); have n3_ := Zz.mk (bkB (g := gb433) (o := .cells #[.int .i64 t429, .int .i64 t430, .int .i64 t431, .bool t432] 30 (0, 0)) (by (with_reducible repeat (first | refine bkN ?_ _ | refine bkD ?_ | refine bkA ?_ _)); exact BK433.out) hb); have n4_ := Zz.mk (bwP (by repeat (first | (with_reducible first | exact HB.out | apply bwA | apply pwN | apply bw1 | refine bwS ?_ GE433.out) | exact HB.out)) hb); clear HO428; clear HO436; clear HO439; clear BK433; clear HB; have HO428 := n0_; have HO436 := n1_; have HO439 := n2_; have BK433 := n3_; have HB := n4_; clear n0_ n1_ n2_ n3_ n4_; (try clear hb); (try clear A16)) | (go_at_call 27; (with_reducible refine (spec_CastOk.calls k _ _ t426 t442 _ ?side1 ?side2 A17.out).mono ?_); (case side1 => repeat (first | exact (Kd.R_reads' HO428.out).2.2 | (with_reducible refine Kd.CA ?_ _) | (with_reducible refine Kd.CN ?_ _) | (with_reducible refine Kd.CD ?_))); (case side2 => exact (Kd.R_reads' HO428.out).2.1); rintro e w21 ⟨rfl, hb⟩; have n0_ := Zz.mk (Kd.R_below (by (with_reducible repeat (first | apply Kd.RA | apply Kd.RN | apply Kd.RD)); exact HO428.out) hb); have n1_ := Zz.mk (Kd.R_below (by (with_reducible repeat (first | apply Kd.RA | apply Kd.RN | apply Kd.RD)); exact HO436.out) hb); have n2_ := Zz.mk (Kd.R_below (by (with_reducible repeat (first | apply Kd.RA | apply Kd.RN | apply Kd.RD)); exact HO439.out) hb); have n3_ := Zz.mk (bkB (g := gb433) (o := .cells #[.int .i64 t429, .int .i64 t430, .int .i64 t431, .bool t432] 30 (0, 0)) (by (with_reducible repeat (first | refine bkN ?_ _ | refine bkD ?_ | refine bkA ?_ _)); exact BK433.out) hb); have n4_ := Zz.mk (bwP (by repeat (first | (with_reducible first | exact HB.out | apply bwA | apply pwN | apply bw1 | refine bwS ?_ GE433.out) | exact HB.out)) hb); clear HO428; clear HO436; clear HO439; clear BK433; clear HB; have HO428 := n0_; have HO436 := n1_; have HO439 := n2_; have BK433 := n3_; have HB := n4_; clear n0_ n1_ n2_ n3_ n4_; (try clear hb); (try clear A17)))
    go_meet
    case rel => exact ⟨_, ((t441 != t442)), (by first | rfl | (simp; done) | (simp [*]; done)), H', ⟨by first | omega | exact Nat.le_refl _⟩, ⟨by (with_reducible repeat (first | apply Kd.RA | apply Kd.RN | apply Kd.RD)); exact Kd.R_mono HO428.out (fun _ hk => hk.1.2)⟩, ⟨by (with_reducible repeat (first | apply Kd.RA | apply Kd.RN | apply Kd.RD)); exact Kd.R_mono HO436.out (fun _ hk => hk.1.2)⟩, ⟨by (with_reducible repeat (first | refine bkN ?_ _ | refine bkD ?_ | refine bkA ?_ _)); exact BK433.out⟩, ⟨by repeat (first | (with_reducible first | exact HB.out | apply bwA | apply pwN | apply bw1 | refine bwS ?_ GE433.out) | exact HB.out)⟩⟩
   ·replace c15 := Bool.eq_false_iff.mpr c15
    subst c15; have H1 : (laws_FnCastNew.j0 k t426 t434 true t429 t430 t431 t432) = some r := by rw [if_neg (show ¬ (false = true) by decide)] at H; exact H
    clear H; have H := H1; clear H1; have H' := Zz.mk H; clear H; obtain ⟨Ao22, co22, eo22⟩ := Kd.R_slice HO436.out; subst eo22; obtain ⟨Ao23, co23, eo23⟩ := Kd.R_slice HO439.out; subst eo23; go_wp2_with (first | ((with_reducible refine gate_callee (f := 36) rfl ?_); refine goesL_ (some 25) rfl rfl Try.func36 (by kernel_rfl) rfl #[.slice Ao22 t434.length co22, .slice Ao23 t437.length co23] rfl (by (try simp only [List.map_toArray, List.map_cons, List.map_nil]); first | done | rfl | (simp only [List.length_drop, List.length_take]; rfl)) ?_; (with_reducible refine (laws_lhItems.calls k _ _ t434 _ _ t437 false _ ?side1 ?side2 ?side3 ?side4 A14.out).mono ?_); (case side1 => repeat (first | exact (Kd.R_reads' HO436.out).2.2 | (with_reducible refine Kd.CA ?_ _) | (with_reducible refine Kd.CN ?_ _) | (with_reducible refine Kd.CD ?_))); (case side2 => exact (Kd.R_reads' HO436.out).2.1); (case side3 => repeat (first | exact (Kd.R_reads' HO439.out).2.2 | (with_reducible refine Kd.CA ?_ _) | (with_reducible refine Kd.CN ?_ _) | (with_reducible refine Kd.CD ?_))); (case side4 => exact (Kd.R_reads' HO439.out).2.1); rintro e w' ⟨rfl, ⟨nd, rfl⟩⟩; refine ⟨_, rfl, ?_⟩; (try clear A14)))
    go_meet
    case rel => exact ⟨_, (true), (by first | rfl | (simp; done) | (simp [*]; done)), H', ⟨by first | omega | exact Nat.le_refl _⟩, ⟨by (with_reducible repeat (first | apply Kd.RA | apply Kd.RN | apply Kd.RD)); exact Kd.R_mono HO428.out (fun _ hk => hk.1.2)⟩, ⟨by (with_reducible repeat (first | apply Kd.RA | apply Kd.RN | apply Kd.RD)); exact Kd.R_mono HO436.out (fun _ hk => hk.1.2)⟩, ⟨by (with_reducible repeat (first | refine bkN ?_ _ | refine bkD ?_ | refine bkA ?_ _)); exact BK433.out⟩, ⟨by repeat (first | (with_reducible first | exact HB.out | apply bwA | apply pwN | apply bw1 | refine bwS ?_ GE433.out) | exact HB.out)⟩⟩
  case rest =>
   clear HC6; try clear c1
   try clear c2
   try clear c2b0
   try clear c2b1
   try clear p2
   try clear c3
   try clear c9
   try clear c15
   try clear hcz12_0
   try clear hcz12_1
   try clear hcz12_2
   try clear hcz12_3
   try clear hcz9_0
   try clear hcz9_1
   try clear hcz9_2
   try clear hcz9_3
   try clear hfz12_0
   try clear hfz12_1
   try clear hfz12_2
   try clear hfz12_3
   try clear hfz9_0
   try clear hfz9_1
   try clear hfz9_2
   try clear hfz9_3
   obtain ⟨kq, x33_5, rfl, HA, HJ5, HO_3, HO_5, BK433, HB⟩ := hcut; cases kq with
   | zero => exact absurd HA.out (by simp [laws_FnCastNew.j0])
   | succ kj5 =>
    have H := HA.out; clear HA; simp only [laws_FnCastNew.j0] at H; by_cases c24 : x33_5 = true
    ·subst c24
     have H1 : (some false) = some r := by rw [if_pos rfl] at H; exact H
     clear H; have H := H1; clear H1; obtain rfl := Option.some.inj H; go_wp2
     go_ret
     exact ⟨by first | rfl | (simp [eN, eS] <;> rfl) | (simp [*, eN, eS] <;> rfl), by repeat (first | (with_reducible first | exact HB.out | apply bwA | apply pwN | apply bw1 | refine bwS ?_ GE433.out) | exact HB.out)⟩
    ·replace c24 := Bool.eq_false_iff.mpr c24
     subst c24; have H1 : ((spec_CastOk.f kj5 t426).bind fun t443 => (if t443 = true then ((spec_FactOk.f t429 t430 t431 t432).bind fun t444 => (laws_FnCastNew.j1 kj5 t426 t434 (!t444) t429 t430 t431 t432)) else (laws_FnCastNew.j1 kj5 t426 t434 true t429 t430 t431 t432))) = some r := by rw [if_neg (show ¬ (false = true) by decide)] at H; exact H
     clear H; have H := H1; clear H1; have HC25 := Zz.mk H; clear H; go_upto_region 8 with (fail)
     go_cut [41] (fun v41 wc => ∃ (kq : Nat) (x41_24 : Bool), v41 = .bool x41_24 ∧ Zz (laws_FnCastNew.j1 kq t426 t434 x41_24 t429 t430 t431 t432 = some r) ∧ Zz (kq ≤ kj5) ∧ Zz (Kd.R k57 57 wc w.heap.size (fun k_ => some k_ ≠ (v435 : Value).ownBlock) (.slice Ao10 t426.length co10) t426) ∧ Zz (Kd.R k57 57 wc w.heap.size (fun k_ => some k_ ≠ ((.slice Ao10 t426.length co10) : Value).ownBlock) v435 t434) ∧ Zz (wc.heap[gb433]? = some (.cells #[.int .i64 t429, .int .i64 t430, .int .i64 t431, .bool t432] 30 (0, 0))) ∧ Zz (Below w.heap.size w wc))
     case first =>
      have H := HC25.out; clear HC25; replace H := Option.bind_eq_some_iff.mp H; obtain ⟨t443, A260, H⟩ := H; replace H : (if t443 = true then ((spec_FactOk.f t429 t430 t431 t432).bind fun t444 => (laws_FnCastNew.j1 kj5 t426 t434 (!t444) t429 t430 t431 t432)) else (laws_FnCastNew.j1 kj5 t426 t434 true t429 t430 t431 t432)) = some r := H; have A26 := Zz.mk A260; clear A260; by_cases c27 : t443 = true
      ·subst c27
       have H1 : ((spec_FactOk.f t429 t430 t431 t432).bind fun t444 => (laws_FnCastNew.j1 kj5 t426 t434 (!t444) t429 t430 t431 t432)) = some r := by rw [if_pos rfl] at H; exact H
       clear H; have H := H1; clear H1; replace H := Option.bind_eq_some_iff.mp H; obtain ⟨t444, A280, H⟩ := H; replace H : (laws_FnCastNew.j1 kj5 t426 t434 (!t444) t429 t430 t431 t432) = some r := H; have A28 := Zz.mk A280; clear A280; have H' := Zz.mk H; clear H; go_wp2_with (first | ((with_reducible refine gate_callee (f := 27) rfl ?_); refine goesL_ (some 35) rfl rfl Try.func27 (by kernel_rfl) rfl #[.slice Ao10 t426.length co10] rfl (by (try simp only [List.map_toArray, List.map_cons, List.map_nil]); first | done | rfl | (simp only [List.length_drop, List.length_take]; rfl)) ?_; (with_reducible refine (spec_CastOk.calls kj5 _ _ t426 true _ ?side1 ?side2 A26.out).mono ?_); (case side1 => repeat (first | exact (Kd.R_reads' HO_3.out).2.2 | (with_reducible refine Kd.CA ?_ _) | (with_reducible refine Kd.CN ?_ _) | (with_reducible refine Kd.CD ?_))); (case side2 => exact (Kd.R_reads' HO_3.out).2.1); rintro e w29 ⟨rfl, hb⟩; refine ⟨_, rfl, ?_⟩; have n0_ := Zz.mk (Kd.R_below (by (with_reducible repeat (first | apply Kd.RA | apply Kd.RN | apply Kd.RD)); exact HO_3.out) hb); have n1_ := Zz.mk (Kd.R_below (by (with_reducible repeat (first | apply Kd.RA | apply Kd.RN | apply Kd.RD)); exact HO_5.out) hb); have n2_ := Zz.mk (bkB (g := gb433) (o := .cells #[.int .i64 t429, .int .i64 t430, .int .i64 t431, .bool t432] 30 (0, 0)) (by (with_reducible repeat (first | refine bkN ?_ _ | refine bkD ?_ | refine bkA ?_ _)); exact BK433.out) hb); have n3_ := Zz.mk (bwP (by repeat (first | (with_reducible first | exact HB.out | apply bwA | apply pwN | apply bw1 | refine bwS ?_ GE433.out) | exact HB.out)) hb); clear HO_3; clear HO_5; clear BK433; clear HB; have HO_3 := n0_; have HO_5 := n1_; have BK433 := n2_; have HB := n3_; clear n0_ n1_ n2_ n3_; (try clear hb); (try clear A26); have hcz30_0 : w29.cell? ⟨gb433, 0, none⟩ = some (.int .i64 t429) := (bkC BK433.out 0).trans rfl; have hcz30_1 : w29.cell? ⟨gb433, 1, none⟩ = some (.int .i64 t430) := (bkC BK433.out 1).trans rfl; have hcz30_2 : w29.cell? ⟨gb433, 2, none⟩ = some (.int .i64 t431) := (bkC BK433.out 2).trans rfl; have hcz30_3 : w29.cell? ⟨gb433, 3, none⟩ = some (.bool t432) := (bkC BK433.out 3).trans rfl; have hfz30_0 := bkF BK433.out 0; have hfz30_1 := bkF BK433.out 1; have hfz30_2 := bkF BK433.out 2; have hfz30_3 := bkF BK433.out 3) | (go_at_call 25; (with_reducible refine (spec_FactOk.calls t429 t430 t431 t432 t444 _ A28.out).mono ?_); rintro e w31 ⟨rfl, hb⟩; have n0_ := Zz.mk (Kd.R_below (by (with_reducible repeat (first | apply Kd.RA | apply Kd.RN | apply Kd.RD)); exact HO_3.out) hb); have n1_ := Zz.mk (Kd.R_below (by (with_reducible repeat (first | apply Kd.RA | apply Kd.RN | apply Kd.RD)); exact HO_5.out) hb); have n2_ := Zz.mk (bkB (g := gb433) (o := .cells #[.int .i64 t429, .int .i64 t430, .int .i64 t431, .bool t432] 30 (0, 0)) (by (with_reducible repeat (first | refine bkN ?_ _ | refine bkD ?_ | refine bkA ?_ _)); exact BK433.out) hb); have n3_ := Zz.mk (bwP (by repeat (first | (with_reducible first | exact HB.out | apply bwA | apply pwN | apply bw1 | refine bwS ?_ GE433.out) | exact HB.out)) hb); clear HO_3; clear HO_5; clear BK433; clear HB; have HO_3 := n0_; have HO_5 := n1_; have BK433 := n2_; have HB := n3_; clear n0_ n1_ n2_ n3_; (try clear hb); (try clear A28)))
       go_meet
       case rel => exact ⟨_, (!t444), (by first | rfl | (simp; done) | (simp [*]; done)), H', ⟨by have := HJ5.out; first | omega | exact Nat.le_refl _⟩, ⟨by (with_reducible repeat (first | apply Kd.RA | apply Kd.RN | apply Kd.RD)); exact HO_3.out⟩, ⟨by (with_reducible repeat (first | apply Kd.RA | apply Kd.RN | apply Kd.RD)); exact HO_5.out⟩, ⟨by (with_reducible repeat (first | refine bkN ?_ _ | refine bkD ?_ | refine bkA ?_ _)); exact BK433.out⟩, ⟨by repeat (first | (with_reducible first | exact HB.out | apply bwA | apply pwN | apply bw1 | refine bwS ?_ GE433.out) | exact HB.out)⟩⟩
      ·replace c27 := Bool.eq_false_iff.mpr c27
       subst c27; have H1 : (laws_FnCastNew.j1 kj5 t426 t434 true t429 t430 t431 t432) = some r := by rw [if_neg (show ¬ (false = true) by decide)] at H; exact H
       clear H; have H := H1; clear H1; have H' := Zz.mk H; clear H; go_wp2_with (first | ((with_reducible refine gate_callee (f := 27) rfl ?_); refine goesL_ (some 35) rfl rfl Try.func27 (by kernel_rfl) rfl #[.slice Ao10 t426.length co10] rfl (by (try simp only [List.map_toArray, List.map_cons, List.map_nil]); first | done | rfl | (simp only [List.length_drop, List.length_take]; rfl)) ?_; (with_reducible refine (spec_CastOk.calls kj5 _ _ t426 false _ ?side1 ?side2 A26.out).mono ?_); (case side1 => repeat (first | exact (Kd.R_reads' HO_3.out).2.2 | (with_reducible refine Kd.CA ?_ _) | (with_reducible refine Kd.CN ?_ _) | (with_reducible refine Kd.CD ?_))); (case side2 => exact (Kd.R_reads' HO_3.out).2.1); rintro e w32 ⟨rfl, hb⟩; refine ⟨_, rfl, ?_⟩; have n0_ := Zz.mk (Kd.R_below (by (with_reducible repeat (first | apply Kd.RA | apply Kd.RN | apply Kd.RD)); exact HO_3.out) hb); have n1_ := Zz.mk (Kd.R_below (by (with_reducible repeat (first | apply Kd.RA | apply Kd.RN | apply Kd.RD)); exact HO_5.out) hb); have n2_ := Zz.mk (bkB (g := gb433) (o := .cells #[.int .i64 t429, .int .i64 t430, .int .i64 t431, .bool t432] 30 (0, 0)) (by (with_reducible repeat (first | refine bkN ?_ _ | refine bkD ?_ | refine bkA ?_ _)); exact BK433.out) hb); have n3_ := Zz.mk (bwP (by repeat (first | (with_reducible first | exact HB.out | apply bwA | apply pwN | apply bw1 | refine bwS ?_ GE433.out) | exact HB.out)) hb); clear HO_3; clear HO_5; clear BK433; clear HB; have HO_3 := n0_; have HO_5 := n1_; have BK433 := n2_; have HB := n3_; clear n0_ n1_ n2_ n3_; (try clear hb); (try clear A26)))
       go_meet
       case rel => exact ⟨_, (true), (by first | rfl | (simp; done) | (simp [*]; done)), H', ⟨by have := HJ5.out; first | omega | exact Nat.le_refl _⟩, ⟨by (with_reducible repeat (first | apply Kd.RA | apply Kd.RN | apply Kd.RD)); exact HO_3.out⟩, ⟨by (with_reducible repeat (first | apply Kd.RA | apply Kd.RN | apply Kd.RD)); exact HO_5.out⟩, ⟨by (with_reducible repeat (first | refine bkN ?_ _ | refine bkD ?_ | refine bkA ?_ _)); exact BK433.out⟩, ⟨by repeat (first | (with_reducible first | exact HB.out | apply bwA | apply pwN | apply bw1 | refine bwS ?_ GE433.out) | exact HB.out)⟩⟩
     case rest =>
      clear HC25; try clear c1
      try clear c2
      try clear c2b0
      try clear c2b1
      try clear p2
      try clear c3
      try clear c9
      try clear c15
      try clear c24
      try clear c27
      try clear c31
      try clear c32
      try clear hcz12_0
      try clear hcz12_1
      try clear hcz12_2
      try clear hcz12_3
      try clear hcz30_0
      try clear hcz30_1
      try clear hcz30_2
      try clear hcz30_3
      try clear hcz9_0
      try clear hcz9_1
      try clear hcz9_2
      try clear hcz9_3
      try clear hfz12_0
      try clear hfz12_1
      try clear hfz12_2
      try clear hfz12_3
      try clear hfz30_0
      try clear hfz30_1
      try clear hfz30_2
      try clear hfz30_3
      try clear hfz9_0
      try clear hfz9_1
      try clear hfz9_2
      try clear hfz9_3
      try clear p2
      obtain ⟨kq, x41_24, rfl, HA, HJ24, HO_3, HO_5, BK433, HB⟩ := hcut; cases kq with
      | zero => exact absurd HA.out (by simp [laws_FnCastNew.j1])
      | succ kj24 =>
       have H := HA.out; clear HA; simp only [laws_FnCastNew.j1] at H; by_cases c33 : x41_24 = true
       ·subst c33
        have H1 : (some ((t434.length : Int) == 0)) = some r := by rw [if_pos rfl] at H; exact H
        clear H; have H := H1; clear H1; obtain rfl := Option.some.inj H; obtain ⟨Ao34, co34, eo34⟩ := Kd.R_slice HO_5.out; subst eo34; go_wp2
        go_ret
        exact ⟨by first | rfl | (simp [eN, eS] <;> rfl) | (simp [*, eN, eS] <;> rfl), by repeat (first | (with_reducible first | exact HB.out | apply bwA | apply pwN | apply bw1 | refine bwS ?_ GE433.out) | exact HB.out)⟩
       ·replace c33 := Bool.eq_false_iff.mpr c33
        subst c33; have H1 : (laws_FnCastNew.l0 kj24 t426 t434 0 0 t429 t430 t431 t432) = some r := by rw [if_neg (show ¬ (false = true) by decide)] at H; exact H
        clear H; have H := H1; clear H1; have H' := Zz.mk H; clear H; go_wp2
        go_loopg [7, 8] kj24 (fun kq v7 v8 w' => ∃ (x7_3 : Int) (x8_3 : Int), v7 = .int .i64 x7_3 ∧ v8 = .int .i64 x8_3 ∧ Zz (laws_FnCastNew.l0 kq t426 t434 x7_3 x8_3 t429 t430 t431 t432 = some r) ∧ Zz (kq ≤ kj24) ∧ Zz (Kd.R k57 57 w' w.heap.size (fun k_ => some k_ ≠ (v435 : Value).ownBlock) (.slice Ao10 t426.length co10) t426) ∧ Zz (Kd.R k57 57 w' w.heap.size (fun k_ => some k_ ≠ ((.slice Ao10 t426.length co10) : Value).ownBlock) v435 t434) ∧ Zz (w'.heap[gb433]? = some (.cells #[.int .i64 t429, .int .i64 t430, .int .i64 t431, .bool t432] 30 (0, 0))) ∧ Zz (Below w.heap.size w w'))
        case atStart => exact ⟨(0), (0), (by first | rfl | (simp; done) | (simp [*]; done)), (by first | rfl | (simp; done) | (simp [*]; done)), H', ⟨Nat.le_refl _⟩, ⟨by (with_reducible repeat (first | apply Kd.RA | apply Kd.RN | apply Kd.RD)); exact HO_3.out⟩, ⟨by (with_reducible repeat (first | apply Kd.RA | apply Kd.RN | apply Kd.RD)); exact HO_5.out⟩, ⟨by (with_reducible repeat (first | refine bkN ?_ _ | refine bkD ?_ | refine bkA ?_ _)); exact BK433.out⟩, ⟨by repeat (first | (with_reducible first | exact HB.out | apply bwA | apply pwN | apply bw1 | refine bwS ?_ GE433.out) | exact HB.out)⟩⟩
        case round =>
         clear H'; try clear c1
         try clear c2
         try clear c2b0
         try clear c2b1
         try clear p2
         try clear c3
         try clear c9
         try clear c15
         try clear c24
         try clear c27
         try clear c31
         try clear c32
         try clear c33
         try clear hcz12_0
         try clear hcz12_1
         try clear hcz12_2
         try clear hcz12_3
         try clear hcz30_0
         try clear hcz30_1
         try clear hcz30_2
         try clear hcz30_3
         try clear hcz9_0
         try clear hcz9_1
         try clear hcz9_2
         try clear hcz9_3
         try clear hfz12_0
         try clear hfz12_1
         try clear hfz12_2
         try clear hfz12_3
         try clear hfz30_0
         try clear hfz30_1
         try clear hfz30_2
         try clear hfz30_3
         try clear hfz9_0
         try clear hfz9_1
         try clear hfz9_2
         try clear hfz9_3
         try clear p2
         obtain ⟨x7_3, x8_3, rfl, rfl, HA, HK3, HO_3, HO_5, BK433, HB⟩ := hrel; cases gk with
         | zero => exact absurd HA.out (by simp [laws_FnCastNew.l0])
         | succ k3 =>
          have H := HA.out; clear HA; simp only [laws_FnCastNew.l0] at H; by_cases c35 : x8_3 < (t434.length : Int)
          ·rw [if_pos c35] at H
           have c35b0 : decide (x8_3 < (t434.length : Int)) = true := decide_eq_true c35; clear c35; by_cases c36 : 0 ≤ x8_3
           ·rw [if_pos c36] at H
            have c36b0 : decide (0 ≤ x8_3) = true := decide_eq_true c36; clear c36; by_cases c37 : ((rd_T57 t434 x8_3).f0.f0) = t429
            ·rw [if_pos c37] at H
             have c37b0 : (((rd_T57 t434 x8_3).f0.f0) == t429) = true := beq_iff_eq.mpr c37; have c37b1 : (((rd_T57 t434 x8_3).f0.f0) != t429) = false := bne_eq_false_iff_eq.mpr c37; clear c37; have HC38 := Zz.mk H; clear H; obtain ⟨Ao39, co39, eo39⟩ := Kd.R_slice HO_5.out; subst eo39; try go_wp2
             have n0_ := Zz.mk (Kd.RD HO_3.out); have n1_ := Zz.mk (Kd.RD HO_5.out); have n2_ := Zz.mk (bkD BK433.out); have n3_ := Zz.mk (bw1 HB.out); clear HO_3; clear HO_5; clear BK433; clear HB; have HO_3 := n0_; have HO_5 := n1_; have BK433 := n2_; have HB := n3_; clear n0_ n1_ n2_ n3_; have p445 : 0 ≤ (x8_3 : Int) := of_decide_eq_true (by first | (with_reducible assumption) | assumption); have q445 : x8_3 < (t434.length : Int) := of_decide_eq_true (by first | (with_reducible assumption) | assumption); obtain ⟨ad445, e445, hx445_0, hx445_1, hx445_2, hx445_3, hx445_4⟩ := at_T57 (Kd.R_reads' HO_5.out).2.2 x8_3 p445 q445; cases e445
             replace p445 := eq_true p445; replace q445 := eq_true q445; refine start_ (n := 9) (S := fun w' => w'.cell? ⟨gb433, 0, none⟩ = some (.int .i64 t429) ∧ w'.cell? ⟨gb433, 1, none⟩ = some (.int .i64 t430) ∧ w'.cell? ⟨gb433, 2, none⟩ = some (.int .i64 t431) ∧ w'.cell? ⟨gb433, 3, none⟩ = some (.bool t432) ∧ w'.cell? (ad445.add ((x8_3).toNat * 5)) = some (.int .i64 ((rd_T57 t434 x8_3).f0.f0)) ∧ w'.cell? ⟨(ad445.add ((x8_3).toNat * 5)).block, (ad445.add ((x8_3).toNat * 5)).off + 1, none⟩ = some (.int .i64 ((rd_T57 t434 x8_3).f0.f1)) ∧ w'.cell? ⟨(ad445.add ((x8_3).toNat * 5)).block, (ad445.add ((x8_3).toNat * 5)).off + 2, none⟩ = some (.int .i64 ((rd_T57 t434 x8_3).f0.f2)) ∧ w'.cell? ⟨(ad445.add ((x8_3).toNat * 5)).block, (ad445.add ((x8_3).toNat * 5)).off + 3, none⟩ = some (.bool ((rd_T57 t434 x8_3).f0.f3)) ∧ w'.cell? ⟨(ad445.add ((x8_3).toNat * 5)).block, (ad445.add ((x8_3).toNat * 5)).off + 4, none⟩ = some (.int .i64 ((rd_T57 t434 x8_3).f1))) (ds := []) #[false, false, false, false, false, false, false, false, false] (by kernel_rfl) rfl rfl ⟨(bkC BK433.out 0).trans rfl, (bkC BK433.out 1).trans rfl, (bkC BK433.out 2).trans rfl, (bkC BK433.out 3).trans rfl, hx445_0, hx445_1, hx445_2, hx445_3, hx445_4⟩ (fun hH => ?_); refine with_tabW laws_FnCastNew.tab14 laws_FnCastNew.bits14 (fun HT_ HW_ => ?_); generalize wr.drew = w40 at HO_3 HO_5 BK433 HB hx445_0 hx445_1 hx445_2 hx445_3 hx445_4 hH ⊢; refine pure_ (i := 0) (N := some 51) (v := ?_) (a' := ?_) #[true, false, false, false, false, false, false, false, false] rfl rfl (any_of HT_.out (by kernel_rfl)) (fun _ _ _ h => h) (Or.inl ⟨by rfl, ?_⟩) ?_ ?_; rotate_left
             ·intro w'; go_simp; with_reducible rfl
             rotate_left
             ·simp only [pS, i64_w, i32_w]; rfl
             refine pure_ (i := 1) (N := some 52) (v := ?_) (a' := ?_) #[true, true, false, false, false, false, false, false, false] rfl rfl (any_of HT_.out (by kernel_rfl)) (fun _ _ _ h => h) (Or.inl ⟨by rfl, ?_⟩) ?_ ?_; rotate_left
             ·intro w'; go_simp; with_reducible rfl
             rotate_left
             ·simp only [pS, i64_w, i32_w]; rfl
             refine pure_ (i := 2) (N := some 53) (v := ?_) (a' := ?_) #[true, true, true, false, false, false, false, false, false] rfl rfl (any_of HT_.out (by kernel_rfl)) (fun _ _ _ h => h) (Or.inl ⟨by rfl, ?_⟩) ?_ ?_; rotate_left
             ·intro w'; go_simp; with_reducible rfl
             rotate_left
             ·simp only [pS, i64_w, i32_w]; rfl
             refine pure_ (i := 3) (N := some 54) (v := ?_) (a' := ?_) #[true, true, true, true, false, false, false, false, false] rfl rfl (any_of HT_.out (by kernel_rfl)) (fun _ _ _ h => h) (Or.inl ⟨by rfl, ?_⟩) ?_ ?_; rotate_left
             ·intro w'; go_simp; with_reducible rfl
             rotate_left
             ·simp only [pS, i64_w, i32_w]; rfl
             refine pure_ (i := 4) (N := some 55) (v := ?_) (a' := ?_) #[true, true, true, true, true, false, false, false, false] rfl rfl (any_of HT_.out (by kernel_rfl)) (fun _ _ _ h => h) (Or.inl ⟨by rfl, ?_⟩) ?_ ?_; rotate_left
             ·intro w'; go_simp; with_reducible rfl
             rotate_left
             ·simp only [pS, i64_w, i32_w]; rfl
             refine pure_ (i := 6) (N := some 57) (v := ?_) (a' := ?_) #[true, true, true, true, true, false, true, false, false] rfl rfl (any_of HT_.out (by kernel_rfl)) (fun _ _ _ h => h) (Or.inl ⟨by rfl, ?_⟩) ?_ ?_; rotate_left
             ·intro w'; go_simp; with_reducible rfl
             rotate_left
             ·simp only [pS, i64_w, i32_w]; rfl
             refine take_ (i := 5) (N := some 56) (v := ?_) (a' := ?_) #[true, true, true, true, true, true, true, false, false] rfl rfl (take_ofW HT_.out HW_.out (by kernel_rfl)) (fun _ _ _ h => h) (Or.inl ⟨by rfl, ?_⟩) hH ?_ ?_; rotate_left
             ·rintro w' ⟨s0, s1, s2, s3, s4, s5, s6, s7, s8⟩; go_simp; with_reducible rfl
             rotate_left
             ·simp only [pS, i64_w, i32_w]; rfl
             refine take_ (i := 7) (N := some 58) (v := ?_) (a' := ?_) #[true, true, true, true, true, true, true, true, false] rfl rfl (take_ofW HT_.out HW_.out (by kernel_rfl)) (fun _ _ _ h => h) (Or.inl ⟨by rfl, ?_⟩) hH ?_ ?_; rotate_left
             ·rintro w' ⟨s0, s1, s2, s3, s4, s5, s6, s7, s8⟩; go_simp; with_reducible rfl
             rotate_left
             ·simp only [pS, i64_w, i32_w]; rfl
             refine pure_ (i := 8) (N := some 59) (v := ?_) (a' := ?_) #[true, true, true, true, true, true, true, true, true] rfl rfl (any_of HT_.out (by kernel_rfl)) (fun _ _ _ h => h) (Or.inl ⟨by rfl, ?_⟩) ?_ ?_; rotate_left
             ·intro w'; go_simp; with_reducible rfl
             rotate_left
             ·simp only [pS, i64_w, i32_w]; rfl
             refine done_ (done_of HT_.out (by kernel_rfl)) ?_; go_upto_region 16 with (fail)
             go_cut [92] (fun v92 wc => ∃ (kq : Nat) (x92_37 : Bool), v92 = .bool x92_37 ∧ Zz (laws_FnCastNew.j3 kq t426 t434 (wrap64 (x7_3 + 1)) x8_3 x92_37 t429 t430 t431 t432 = some r) ∧ Zz (kq ≤ k3) ∧ Zz (Kd.R k57 57 wc w.heap.size (fun k_ => some k_ ≠ ((.slice (some ad445) t434.length co39) : Value).ownBlock) (.slice Ao10 t426.length co10) t426) ∧ Zz (Kd.R k57 57 wc w.heap.size (fun k_ => some k_ ≠ ((.slice Ao10 t426.length co10) : Value).ownBlock) (.slice (some ad445) t434.length co39) t434) ∧ Zz (wc.heap[gb433]? = some (.cells #[.int .i64 t429, .int .i64 t430, .int .i64 t431, .bool t432] 30 (0, 0))) ∧ Zz (Below w.heap.size w wc))
             case first =>
              have H := HC38.out; clear HC38; replace H := Option.bind_eq_some_iff.mp H; obtain ⟨t447, A410, H⟩ := H; replace H : (if t447 = true then (laws_FnCastNew.j3 k3 t426 t434 (wrap64 (x7_3 + 1)) x8_3 true t429 t430 t431 t432) else (if (((rd_T57 t434 x8_3).f0.f0) == t429 && (((rd_T57 t434 x8_3).f0.f1) == t430 && (((rd_T57 t434 x8_3).f0.f2) == t431 && (((rd_T57 t434 x8_3).f0.f3) == t432)))) = true then (if (t434.length : Int) > (t426.length : Int) then (laws_FnCastNew.j3 k3 t426 t434 (wrap64 (x7_3 + 1)) x8_3 (((rd_T57 t434 x8_3).f1) != 4) t429 t430 t431 t432) else (laws_FnCastNew.j3 k3 t426 t434 (wrap64 (x7_3 + 1)) x8_3 false t429 t430 t431 t432)) else (laws_FnCastNew.j3 k3 t426 t434 (wrap64 (x7_3 + 1)) x8_3 false t429 t430 t431 t432))) = some r := H; have A41 := Zz.mk A410; clear A410; by_cases c42 : t447 = true
              ·subst c42
               have H1 : (laws_FnCastNew.j3 k3 t426 t434 (wrap64 (x7_3 + 1)) x8_3 true t429 t430 t431 t432) = some r := by rw [if_pos rfl] at H; exact H
               clear H; have H := H1; clear H1; have H' := Zz.mk H; clear H; try go_wp2
               have n0_ := Zz.mk (Kd.RD HO_3.out); have n1_ := Zz.mk (Kd.RD HO_5.out); have n2_ := Zz.mk (bkD BK433.out); have n3_ := Zz.mk (bw1 HB.out); clear HO_3; clear HO_5; clear BK433; clear HB; have HO_3 := n0_; have HO_5 := n1_; have BK433 := n2_; have HB := n3_; clear n0_ n1_ n2_ n3_; have p446 : 0 ≤ (x8_3 : Int) := of_decide_eq_true (by first | (with_reducible assumption) | assumption); have q446 : x8_3 < (t434.length : Int) := of_decide_eq_true (by first | (with_reducible assumption) | assumption); obtain ⟨ad446, e446, hx446_0, hx446_1, hx446_2, hx446_3, hx446_4⟩ := at_T57 (Kd.R_reads' HO_5.out).2.2 x8_3 p446 q446; obtain rfl : ad445 = ad446 := (by injection e446)
               replace p446 := eq_true p446; replace q446 := eq_true q446; refine start_ (n := 31) (S := fun w' => w'.cell? ⟨gb433, 0, none⟩ = some (.int .i64 t429) ∧ w'.cell? ⟨gb433, 1, none⟩ = some (.int .i64 t430) ∧ w'.cell? ⟨gb433, 2, none⟩ = some (.int .i64 t431) ∧ w'.cell? ⟨gb433, 3, none⟩ = some (.bool t432) ∧ w'.cell? (ad445.add ((x8_3).toNat * 5)) = some (.int .i64 ((rd_T57 t434 x8_3).f0.f0)) ∧ w'.cell? ⟨(ad445.add ((x8_3).toNat * 5)).block, (ad445.add ((x8_3).toNat * 5)).off + 1, none⟩ = some (.int .i64 ((rd_T57 t434 x8_3).f0.f1)) ∧ w'.cell? ⟨(ad445.add ((x8_3).toNat * 5)).block, (ad445.add ((x8_3).toNat * 5)).off + 2, none⟩ = some (.int .i64 ((rd_T57 t434 x8_3).f0.f2)) ∧ w'.cell? ⟨(ad445.add ((x8_3).toNat * 5)).block, (ad445.add ((x8_3).toNat * 5)).off + 3, none⟩ = some (.bool ((rd_T57 t434 x8_3).f0.f3)) ∧ w'.cell? ⟨(ad445.add ((x8_3).toNat * 5)).block, (ad445.add ((x8_3).toNat * 5)).off + 4, none⟩ = some (.int .i64 ((rd_T57 t434 x8_3).f1))) (ds := []) #[false, false, false, false, false, false, false, false, false, false, false, false, false, false, false, false, false, false, false, false, false, false, false, false, false, false, false, false, false, false, false] (by kernel_rfl) rfl rfl ⟨(bkC BK433.out 0).trans rfl, (bkC BK433.out 1).trans rfl, (bkC BK433.out 2).trans rfl, (bkC BK433.out 3).trans rfl, hx446_0, hx446_1, hx446_2, hx446_3, hx446_4⟩ (fun hH => ?_); refine with_tabW laws_FnCastNew.tab16 laws_FnCastNew.bits16 (fun HT_ HW_ => ?_); generalize w40.drew = w43 at HO_3 HO_5 BK433 HB hx446_0 hx446_1 hx446_2 hx446_3 hx446_4 hH ⊢; refine pure_ (i := 1) (N := some 63) (v := ?_) (a' := ?_) #[false, true, false, false, false, false, false, false, false, false, false, false, false, false, false, false, false, false, false, false, false, false, false, false, false, false, false, false, false, false, false] rfl rfl (any_of HT_.out (by kernel_rfl)) (fun _ _ _ h => h) (Or.inl ⟨by rfl, ?_⟩) ?_ ?_; rotate_left
               ·intro w'; go_simp; with_reducible rfl
               rotate_left
               ·simp only [pS, i64_w, i32_w]; rfl
               refine pure_ (i := 2) (N := some 64) (v := ?_) (a' := ?_) #[false, true, true, false, false, false, false, false, false, false, false, false, false, false, false, false, false, false, false, false, false, false, false, false, false, false, false, false, false, false, false] rfl rfl (any_of HT_.out (by kernel_rfl)) (fun _ _ _ h => h) (Or.inl ⟨by rfl, ?_⟩) ?_ ?_; rotate_left
               ·intro w'; go_simp; with_reducible rfl
               rotate_left
               ·simp only [pS, i64_w, i32_w]; rfl
               refine pure_ (i := 3) (N := some 65) (v := ?_) (a' := ?_) #[false, true, true, true, false, false, false, false, false, false, false, false, false, false, false, false, false, false, false, false, false, false, false, false, false, false, false, false, false, false, false] rfl rfl (any_of HT_.out (by kernel_rfl)) (fun _ _ _ h => h) (Or.inl ⟨by rfl, ?_⟩) ?_ ?_; rotate_left
               ·intro w'; go_simp; with_reducible rfl
               rotate_left
               ·simp only [pS, i64_w, i32_w]; rfl
               refine pure_ (i := 4) (N := some 66) (v := ?_) (a' := ?_) #[false, true, true, true, true, false, false, false, false, false, false, false, false, false, false, false, false, false, false, false, false, false, false, false, false, false, false, false, false, false, false] rfl rfl (any_of HT_.out (by kernel_rfl)) (fun _ _ _ h => h) (Or.inl ⟨by rfl, ?_⟩) ?_ ?_; rotate_left
               ·intro w'; go_simp; with_reducible rfl
               rotate_left
               ·simp only [pS, i64_w, i32_w]; rfl
               refine take_ (i := 0) (N := some 62) (v := ?_) (a' := ?_) #[true, true, true, true, true, false, false, false, false, false, false, false, false, false, false, false, false, false, false, false, false, false, false, false, false, false, false, false, false, false, false] rfl rfl (take_ofW HT_.out HW_.out (by kernel_rfl)) (fun _ _ _ h => h) (Or.inl ⟨by rfl, ?_⟩) hH ?_ ?_; rotate_left
               ·rintro w' ⟨s0, s1, s2, s3, s4, s5, s6, s7, s8⟩; go_simp; with_reducible rfl
               rotate_left
               ·simp only [pS, i64_w, i32_w]; rfl
               refine take_ (i := 5) (N := some 67) (v := ?_) (a' := ?_) #[true, true, true, true, true, true, false, false, false, false, false, false, false, false, false, false, false, false, false, false, false, false, false, false, false, false, false, false, false, false, false] rfl rfl (take_ofW HT_.out HW_.out (by kernel_rfl)) (fun _ _ _ h => h) (Or.inl ⟨by rfl, ?_⟩) hH ?_ ?_; rotate_left
               ·rintro w' ⟨s0, s1, s2, s3, s4, s5, s6, s7, s8⟩; go_simp; with_reducible rfl
               rotate_left
               ·simp only [pS, i64_w, i32_w]; rfl
               refine one_ (i := 6) (N := some 68) #[true, true, true, true, true, true, true, false, false, false, false, false, false, false, false, false, false, false, false, false, false, false, false, false, false, false, false, false, false, false, false] rfl rfl (one_of HT_.out (by kernel_rfl)) (by decide) (fun K hK => ?_); refine goes_ Try.func37 (by kernel_rfl) rfl #[.agg #[.int .i64 t429, .int .i64 t430, .int .i64 t431, .bool t432], .agg #[.int .i64 ((rd_T57 t434 x8_3).f0.f0), .int .i64 ((rd_T57 t434 x8_3).f0.f1), .int .i64 ((rd_T57 t434 x8_3).f0.f2), .bool ((rd_T57 t434 x8_3).f0.f3)]] (by rfl) rfl rfl (by (try simp only [List.map_toArray, List.map_cons, List.map_nil]); first | done | rfl | (simp only [List.length_drop, List.length_take]; rfl)) ?_; with_reducible refine (impl_FactOver.calls k3 t429 t430 t431 t432 ((rd_T57 t434 x8_3).f0.f0) ((rd_T57 t434 x8_3).f0.f1) ((rd_T57 t434 x8_3).f0.f2) ((rd_T57 t434 x8_3).f0.f3) true _ A41.out).mono ?_
               rintro e w44 ⟨rfl, hb⟩; have HS4_ := (hb.cell (World.block_lt_of_cell? _ _ (hH.2.2.2.2.1))).trans (hH.2.2.2.2.1); have HS5_ := (hb.cell (World.block_lt_of_cell? _ _ (hH.2.2.2.2.2.1))).trans (hH.2.2.2.2.2.1); have HS6_ := (hb.cell (World.block_lt_of_cell? _ _ (hH.2.2.2.2.2.2.1))).trans (hH.2.2.2.2.2.2.1); have HS7_ := (hb.cell (World.block_lt_of_cell? _ _ (hH.2.2.2.2.2.2.2.1))).trans (hH.2.2.2.2.2.2.2.1); have HS8_ := (hb.cell (World.block_lt_of_cell? _ _ (hH.2.2.2.2.2.2.2.2))).trans (hH.2.2.2.2.2.2.2.2); refine ⟨_, rfl, ?_⟩; have n0_ := Zz.mk (Kd.R_below (by (with_reducible repeat (first | apply Kd.RA | apply Kd.RN | apply Kd.RD)); exact HO_3.out) hb); have n1_ := Zz.mk (Kd.R_below (by (with_reducible repeat (first | apply Kd.RA | apply Kd.RN | apply Kd.RD)); exact HO_5.out) hb); have n2_ := Zz.mk (bkB (g := gb433) (o := .cells #[.int .i64 t429, .int .i64 t430, .int .i64 t431, .bool t432] 30 (0, 0)) (by (with_reducible repeat (first | refine bkN ?_ _ | refine bkD ?_ | refine bkA ?_ _)); exact BK433.out) hb); have n3_ := Zz.mk (bwP (by repeat (first | (with_reducible first | exact HB.out | apply bwA | apply pwN | apply bw1 | refine bwS ?_ GE433.out) | exact HB.out)) hb); clear HO_3; clear HO_5; clear BK433; clear HB; have HO_3 := n0_; have HO_5 := n1_; have BK433 := n2_; have HB := n3_; clear n0_ n1_ n2_ n3_; (try clear hb)
               (try clear A41)
               refine hK.out _ _ ⟨(bkC BK433.out 0).trans rfl, (bkC BK433.out 1).trans rfl, (bkC BK433.out 2).trans rfl, (bkC BK433.out 3).trans rfl, HS4_, HS5_, HS6_, HS7_, HS8_⟩ (fun hH => ?_); clear hK K; refine norm_ (a' := ?_) ?_ ?_; rotate_left
               ·show Act.put _ (some 68) _ = _
                simp only [pS, i64_w, i32_w]; rfl
               refine pure_ (i := 7) (N := some 69) (v := ?_) (a' := ?_) #[true, true, true, true, true, true, true, true, false, false, false, false, false, false, false, false, false, false, false, false, false, false, false, false, false, false, false, false, false, false, false] rfl rfl (any_of HT_.out (by kernel_rfl)) (fun _ _ _ h => h) (Or.inl ⟨by rfl, ?_⟩) ?_ ?_; rotate_left
               ·intro w'; go_simp; with_reducible rfl
               rotate_left
               ·simp only [pS, i64_w, i32_w]; rfl
               refine pure_ (i := 8) (N := some 70) (v := undef) (a' := ?_) #[true, true, true, true, true, true, true, true, true, false, false, false, false, false, false, false, false, false, false, false, false, false, false, false, false, false, false, false, false, false, false] rfl rfl (any_of HT_.out (by kernel_rfl)) (fun _ _ _ h => h) (Or.inr ⟨by rfl, rfl⟩) ?_ ?_; rotate_left
               ·simp only [pS, i64_w, i32_w]; rfl
               refine pure_ (i := 9) (N := some 71) (v := undef) (a' := ?_) #[true, true, true, true, true, true, true, true, true, true, false, false, false, false, false, false, false, false, false, false, false, false, false, false, false, false, false, false, false, false, false] rfl rfl (any_of HT_.out (by kernel_rfl)) (fun _ _ _ h => h) (Or.inr ⟨by rfl, rfl⟩) ?_ ?_; rotate_left
               ·simp only [pS, i64_w, i32_w]; rfl
               refine pure_ (i := 10) (N := some 72) (v := undef) (a' := ?_) #[true, true, true, true, true, true, true, true, true, true, true, false, false, false, false, false, false, false, false, false, false, false, false, false, false, false, false, false, false, false, false] rfl rfl (any_of HT_.out (by kernel_rfl)) (fun _ _ _ h => h) (Or.inr ⟨by rfl, rfl⟩) ?_ ?_; rotate_left
               ·simp only [pS, i64_w, i32_w]; rfl
               refine pure_ (i := 11) (N := some 73) (v := undef) (a' := ?_) #[true, true, true, true, true, true, true, true, true, true, true, true, false, false, false, false, false, false, false, false, false, false, false, false, false, false, false, false, false, false, false] rfl rfl (any_of HT_.out (by kernel_rfl)) (fun _ _ _ h => h) (Or.inr ⟨by rfl, rfl⟩) ?_ ?_; rotate_left
               ·simp only [pS, i64_w, i32_w]; rfl
               refine pure_ (i := 12) (N := some 74) (v := undef) (a' := ?_) #[true, true, true, true, true, true, true, true, true, true, true, true, true, false, false, false, false, false, false, false, false, false, false, false, false, false, false, false, false, false, false] rfl rfl (any_of HT_.out (by kernel_rfl)) (fun _ _ _ h => h) (Or.inr ⟨by rfl, rfl⟩) ?_ ?_; rotate_left
               ·simp only [pS, i64_w, i32_w]; rfl
               refine pure_ (i := 13) (N := some 75) (v := undef) (a' := ?_) #[true, true, true, true, true, true, true, true, true, true, true, true, true, true, false, false, false, false, false, false, false, false, false, false, false, false, false, false, false, false, false] rfl rfl (any_of HT_.out (by kernel_rfl)) (fun _ _ _ h => h) (Or.inr ⟨by rfl, rfl⟩) ?_ ?_; rotate_left
               ·simp only [pS, i64_w, i32_w]; rfl
               refine pure_ (i := 14) (N := some 76) (v := undef) (a' := ?_) #[true, true, true, true, true, true, true, true, true, true, true, true, true, true, true, false, false, false, false, false, false, false, false, false, false, false, false, false, false, false, false] rfl rfl (any_of HT_.out (by kernel_rfl)) (fun _ _ _ h => h) (Or.inr ⟨by rfl, rfl⟩) ?_ ?_; rotate_left
               ·simp only [pS, i64_w, i32_w]; rfl
               refine pure_ (i := 15) (N := some 77) (v := undef) (a' := ?_) #[true, true, true, true, true, true, true, true, true, true, true, true, true, true, true, true, false, false, false, false, false, false, false, false, false, false, false, false, false, false, false] rfl rfl (any_of HT_.out (by kernel_rfl)) (fun _ _ _ h => h) (Or.inr ⟨by rfl, rfl⟩) ?_ ?_; rotate_left
               ·simp only [pS, i64_w, i32_w]; rfl
               refine pure_ (i := 16) (N := some 78) (v := undef) (a' := ?_) #[true, true, true, true, true, true, true, true, true, true, true, true, true, true, true, true, true, false, false, false, false, false, false, false, false, false, false, false, false, false, false] rfl rfl (any_of HT_.out (by kernel_rfl)) (fun _ _ _ h => h) (Or.inr ⟨by rfl, rfl⟩) ?_ ?_; rotate_left
               ·simp only [pS, i64_w, i32_w]; rfl
               refine pure_ (i := 17) (N := some 79) (v := undef) (a' := ?_) #[true, true, true, true, true, true, true, true, true, true, true, true, true, true, true, true, true, true, false, false, false, false, false, false, false, false, false, false, false, false, false] rfl rfl (any_of HT_.out (by kernel_rfl)) (fun _ _ _ h => h) (Or.inr ⟨by rfl, rfl⟩) ?_ ?_; rotate_left
               ·simp only [pS, i64_w, i32_w]; rfl
               refine pure_ (i := 18) (N := some 80) (v := undef) (a' := ?_) #[true, true, true, true, true, true, true, true, true, true, true, true, true, true, true, true, true, true, true, false, false, false, false, false, false, false, false, false, false, false, false] rfl rfl (any_of HT_.out (by kernel_rfl)) (fun _ _ _ h => h) (Or.inr ⟨by rfl, rfl⟩) ?_ ?_; rotate_left
               ·simp only [pS, i64_w, i32_w]; rfl
               refine pure_ (i := 19) (N := some 81) (v := undef) (a' := ?_) #[true, true, true, true, true, true, true, true, true, true, true, true, true, true, true, true, true, true, true, true, false, false, false, false, false, false, false, false, false, false, false] rfl rfl (any_of HT_.out (by kernel_rfl)) (fun _ _ _ h => h) (Or.inr ⟨by rfl, rfl⟩) ?_ ?_; rotate_left
               ·simp only [pS, i64_w, i32_w]; rfl
               refine pure_ (i := 20) (N := some 82) (v := undef) (a' := ?_) #[true, true, true, true, true, true, true, true, true, true, true, true, true, true, true, true, true, true, true, true, true, false, false, false, false, false, false, false, false, false, false] rfl rfl (any_of HT_.out (by kernel_rfl)) (fun _ _ _ h => h) (Or.inr ⟨by rfl, rfl⟩) ?_ ?_; rotate_left
               ·simp only [pS, i64_w, i32_w]; rfl
               refine pure_ (i := 21) (N := some 83) (v := undef) (a' := ?_) #[true, true, true, true, true, true, true, true, true, true, true, true, true, true, true, true, true, true, true, true, true, true, false, false, false, false, false, false, false, false, false] rfl rfl (any_of HT_.out (by kernel_rfl)) (fun _ _ _ h => h) (Or.inr ⟨by rfl, rfl⟩) ?_ ?_; rotate_left
               ·simp only [pS, i64_w, i32_w]; rfl
               refine pure_ (i := 22) (N := some 84) (v := undef) (a' := ?_) #[true, true, true, true, true, true, true, true, true, true, true, true, true, true, true, true, true, true, true, true, true, true, true, false, false, false, false, false, false, false, false] rfl rfl (any_of HT_.out (by kernel_rfl)) (fun _ _ _ h => h) (Or.inr ⟨by rfl, rfl⟩) ?_ ?_; rotate_left
               ·simp only [pS, i64_w, i32_w]; rfl
               refine pure_ (i := 23) (N := some 85) (v := undef) (a' := ?_) #[true, true, true, true, true, true, true, true, true, true, true, true, true, true, true, true, true, true, true, true, true, true, true, true, false, false, false, false, false, false, false] rfl rfl (any_of HT_.out (by kernel_rfl)) (fun _ _ _ h => h) (Or.inr ⟨by rfl, rfl⟩) ?_ ?_; rotate_left
               ·simp only [pS, i64_w, i32_w]; rfl
               refine pure_ (i := 24) (N := some 86) (v := undef) (a' := ?_) #[true, true, true, true, true, true, true, true, true, true, true, true, true, true, true, true, true, true, true, true, true, true, true, true, true, false, false, false, false, false, false] rfl rfl (any_of HT_.out (by kernel_rfl)) (fun _ _ _ h => h) (Or.inr ⟨by rfl, rfl⟩) ?_ ?_; rotate_left
               ·simp only [pS, i64_w, i32_w]; rfl
               refine pure_ (i := 25) (N := some 87) (v := undef) (a' := ?_) #[true, true, true, true, true, true, true, true, true, true, true, true, true, true, true, true, true, true, true, true, true, true, true, true, true, true, false, false, false, false, false] rfl rfl (any_of HT_.out (by kernel_rfl)) (fun _ _ _ h => h) (Or.inr ⟨by rfl, rfl⟩) ?_ ?_; rotate_left
               ·simp only [pS, i64_w, i32_w]; rfl
               refine pure_ (i := 26) (N := some 88) (v := undef) (a' := ?_) #[true, true, true, true, true, true, true, true, true, true, true, true, true, true, true, true, true, true, true, true, true, true, true, true, true, true, true, false, false, false, false] rfl rfl (any_of HT_.out (by kernel_rfl)) (fun _ _ _ h => h) (Or.inr ⟨by rfl, rfl⟩) ?_ ?_; rotate_left
               ·simp only [pS, i64_w, i32_w]; rfl
               refine pure_ (i := 27) (N := some 89) (v := undef) (a' := ?_) #[true, true, true, true, true, true, true, true, true, true, true, true, true, true, true, true, true, true, true, true, true, true, true, true, true, true, true, true, false, false, false] rfl rfl (any_of HT_.out (by kernel_rfl)) (fun _ _ _ h => h) (Or.inr ⟨by rfl, rfl⟩) ?_ ?_; rotate_left
               ·simp only [pS, i64_w, i32_w]; rfl
               refine pure_ (i := 28) (N := some 90) (v := undef) (a' := ?_) #[true, true, true, true, true, true, true, true, true, true, true, true, true, true, true, true, true, true, true, true, true, true, true, true, true, true, true, true, true, false, false] rfl rfl (any_of HT_.out (by kernel_rfl)) (fun _ _ _ h => h) (Or.inr ⟨by rfl, rfl⟩) ?_ ?_; rotate_left
               ·simp only [pS, i64_w, i32_w]; rfl
               refine pure_ (i := 29) (N := some 91) (v := undef) (a' := ?_) #[true, true, true, true, true, true, true, true, true, true, true, true, true, true, true, true, true, true, true, true, true, true, true, true, true, true, true, true, true, true, false] rfl rfl (any_of HT_.out (by kernel_rfl)) (fun _ _ _ h => h) (Or.inr ⟨by rfl, rfl⟩) ?_ ?_; rotate_left
               ·simp only [pS, i64_w, i32_w]; rfl
               refine pure_ (i := 30) (N := some 92) (v := ?_) (a' := ?_) #[true, true, true, true, true, true, true, true, true, true, true, true, true, true, true, true, true, true, true, true, true, true, true, true, true, true, true, true, true, true, true] rfl rfl (any_of HT_.out (by kernel_rfl)) (fun _ _ _ h => h) (Or.inl ⟨by rfl, ?_⟩) ?_ ?_; rotate_left
               ·intro w'; go_simp; with_reducible rfl
               rotate_left
               ·simp only [pS, i64_w, i32_w]; rfl
               refine done_ (done_of HT_.out (by kernel_rfl)) ?_; try go_wp2
               go_meet
               case rel => exact ⟨_, (true), (by first | rfl | (simp; done) | (simp [*]; done)), H', ⟨by have := HJ5.out; have := HJ24.out; have := HK3.out; first | omega | exact Nat.le_refl _⟩, ⟨by (with_reducible repeat (first | apply Kd.RA | apply Kd.RN | apply Kd.RD)); exact HO_3.out⟩, ⟨by (with_reducible repeat (first | apply Kd.RA | apply Kd.RN | apply Kd.RD)); exact HO_5.out⟩, ⟨by (with_reducible repeat (first | refine bkN ?_ _ | refine bkD ?_ | refine bkA ?_ _)); exact BK433.out⟩, ⟨by repeat (first | (with_reducible first | exact HB.out | apply bwA | apply pwN | apply bw1 | refine bwS ?_ GE433.out) | exact HB.out)⟩⟩
              ·replace c42 := Bool.eq_false_iff.mpr c42
               subst c42; have H1 : (if (((rd_T57 t434 x8_3).f0.f0) == t429 && (((rd_T57 t434 x8_3).f0.f1) == t430 && (((rd_T57 t434 x8_3).f0.f2) == t431 && (((rd_T57 t434 x8_3).f0.f3) == t432)))) = true then (if (t434.length : Int) > (t426.length : Int) then (laws_FnCastNew.j3 k3 t426 t434 (wrap64 (x7_3 + 1)) x8_3 (((rd_T57 t434 x8_3).f1) != 4) t429 t430 t431 t432) else (laws_FnCastNew.j3 k3 t426 t434 (wrap64 (x7_3 + 1)) x8_3 false t429 t430 t431 t432)) else (laws_FnCastNew.j3 k3 t426 t434 (wrap64 (x7_3 + 1)) x8_3 false t429 t430 t431 t432)) = some r := by rw [if_neg (show ¬ (false = true) by decide)] at H; exact H
               clear H; have H := H1; clear H1; by_cases c45 : (((rd_T57 t434 x8_3).f0.f0) == t429 && (((rd_T57 t434 x8_3).f0.f1) == t430 && (((rd_T57 t434 x8_3).f0.f2) == t431 && (((rd_T57 t434 x8_3).f0.f3) == t432)))) = true
               ·rw [if_pos c45] at H
                have c45b0 : (((rd_T57 t434 x8_3).f0.f0) == t429 && (((rd_T57 t434 x8_3).f0.f1) == t430 && (((rd_T57 t434 x8_3).f0.f2) == t431 && (((rd_T57 t434 x8_3).f0.f3) == t432)))) = true := c45; (try (have c45b1 : decide (((rd_T57 t434 x8_3).f0.f0) = t429 && (((rd_T57 t434 x8_3).f0.f1) == t430 && (((rd_T57 t434 x8_3).f0.f2) == t431 && (((rd_T57 t434 x8_3).f0.f3) == t432)))) = true := by simpa using c45))
                (try (have c45b2 : (((rd_T57 t434 x8_3).f0.f0) == t429 && (((rd_T57 t434 x8_3).f0.f1) == t430 && (((rd_T57 t434 x8_3).f0.f2) == t431 && (((rd_T57 t434 x8_3).f0.f3) == t432)))) = true := by simpa using c45))
                clear c45; have c45p := c45b0; simp only [Bool.and_eq_true] at c45p; obtain ⟨c45p0, c45p1, c45p2, c45p3⟩ := c45p; (first | rw [c45b0] | (simp only [i64_w, i32_w]; rw [c45b0]) | skip)
                by_cases c46 : (t434.length : Int) > (t426.length : Int)
                ·rw [if_pos c46] at H
                 have c46b0 : decide ((t426.length : Int) < (t434.length : Int)) = true := decide_eq_true c46; have c46b1 : decide (t426.length < t434.length) = true := decide_eq_true (Int.ofNat_lt.mp c46); clear c46; have H' := Zz.mk H; clear H; try go_wp2
                 have n0_ := Zz.mk (Kd.RD HO_3.out); have n1_ := Zz.mk (Kd.RD HO_5.out); have n2_ := Zz.mk (bkD BK433.out); have n3_ := Zz.mk (bw1 HB.out); clear HO_3; clear HO_5; clear BK433; clear HB; have HO_3 := n0_; have HO_5 := n1_; have BK433 := n2_; have HB := n3_; clear n0_ n1_ n2_ n3_; have p446 : 0 ≤ (x8_3 : Int) := of_decide_eq_true (by first | (with_reducible assumption) | assumption); have q446 : x8_3 < (t434.length : Int) := of_decide_eq_true (by first | (with_reducible assumption) | assumption); obtain ⟨ad446, e446, hx446_0, hx446_1, hx446_2, hx446_3, hx446_4⟩ := at_T57 (Kd.R_reads' HO_5.out).2.2 x8_3 p446 q446; obtain rfl : ad445 = ad446 := (by injection e446)
                 replace p446 := eq_true p446; replace q446 := eq_true q446; have p448 : 0 ≤ (x8_3 : Int) := of_decide_eq_true (by first | (with_reducible assumption) | assumption); have q448 : x8_3 < (t434.length : Int) := of_decide_eq_true (by first | (with_reducible assumption) | assumption); obtain ⟨ad448, e448, hx448_0, hx448_1, hx448_2, hx448_3, hx448_4⟩ := at_T57 (Kd.R_reads' HO_5.out).2.2 x8_3 p448 q448; obtain rfl : ad445 = ad448 := (by injection e448)
                 replace p448 := eq_true p448; replace q448 := eq_true q448; have p449 : 0 ≤ (x8_3 : Int) := of_decide_eq_true (by first | (with_reducible assumption) | assumption); have q449 : x8_3 < (t434.length : Int) := of_decide_eq_true (by first | (with_reducible assumption) | assumption); obtain ⟨ad449, e449, hx449_0, hx449_1, hx449_2, hx449_3, hx449_4⟩ := at_T57 (Kd.R_reads' HO_5.out).2.2 x8_3 p449 q449; obtain rfl : ad445 = ad449 := (by injection e449)
                 replace p449 := eq_true p449; replace q449 := eq_true q449; refine start_ (n := 31) (S := fun w' => w'.cell? ⟨gb433, 0, none⟩ = some (.int .i64 t429) ∧ w'.cell? ⟨gb433, 1, none⟩ = some (.int .i64 t430) ∧ w'.cell? ⟨gb433, 2, none⟩ = some (.int .i64 t431) ∧ w'.cell? ⟨gb433, 3, none⟩ = some (.bool t432) ∧ w'.cell? (ad445.add ((x8_3).toNat * 5)) = some (.int .i64 ((rd_T57 t434 x8_3).f0.f0)) ∧ w'.cell? ⟨(ad445.add ((x8_3).toNat * 5)).block, (ad445.add ((x8_3).toNat * 5)).off + 1, none⟩ = some (.int .i64 ((rd_T57 t434 x8_3).f0.f1)) ∧ w'.cell? ⟨(ad445.add ((x8_3).toNat * 5)).block, (ad445.add ((x8_3).toNat * 5)).off + 2, none⟩ = some (.int .i64 ((rd_T57 t434 x8_3).f0.f2)) ∧ w'.cell? ⟨(ad445.add ((x8_3).toNat * 5)).block, (ad445.add ((x8_3).toNat * 5)).off + 3, none⟩ = some (.bool ((rd_T57 t434 x8_3).f0.f3)) ∧ w'.cell? ⟨(ad445.add ((x8_3).toNat * 5)).block, (ad445.add ((x8_3).toNat * 5)).off + 4, none⟩ = some (.int .i64 ((rd_T57 t434 x8_3).f1)) ∧ w'.cell? (ad445.add ((x8_3).toNat * 5)) = some (.int .i64 ((rd_T57 t434 x8_3).f0.f0)) ∧ w'.cell? ⟨(ad445.add ((x8_3).toNat * 5)).block, (ad445.add ((x8_3).toNat * 5)).off + 1, none⟩ = some (.int .i64 ((rd_T57 t434 x8_3).f0.f1)) ∧ w'.cell? ⟨(ad445.add ((x8_3).toNat * 5)).block, (ad445.add ((x8_3).toNat * 5)).off + 2, none⟩ = some (.int .i64 ((rd_T57 t434 x8_3).f0.f2)) ∧ w'.cell? ⟨(ad445.add ((x8_3).toNat * 5)).block, (ad445.add ((x8_3).toNat * 5)).off + 3, none⟩ = some (.bool ((rd_T57 t434 x8_3).f0.f3)) ∧ w'.cell? ⟨(ad445.add ((x8_3).toNat * 5)).block, (ad445.add ((x8_3).toNat * 5)).off + 4, none⟩ = some (.int .i64 ((rd_T57 t434 x8_3).f1)) ∧ w'.cell? (ad445.add ((x8_3).toNat * 5)) = some (.int .i64 ((rd_T57 t434 x8_3).f0.f0)) ∧ w'.cell? ⟨(ad445.add ((x8_3).toNat * 5)).block, (ad445.add ((x8_3).toNat * 5)).off + 1, none⟩ = some (.int .i64 ((rd_T57 t434 x8_3).f0.f1)) ∧ w'.cell? ⟨(ad445.add ((x8_3).toNat * 5)).block, (ad445.add ((x8_3).toNat * 5)).off + 2, none⟩ = some (.int .i64 ((rd_T57 t434 x8_3).f0.f2)) ∧ w'.cell? ⟨(ad445.add ((x8_3).toNat * 5)).block, (ad445.add ((x8_3).toNat * 5)).off + 3, none⟩ = some (.bool ((rd_T57 t434 x8_3).f0.f3)) ∧ w'.cell? ⟨(ad445.add ((x8_3).toNat * 5)).block, (ad445.add ((x8_3).toNat * 5)).off + 4, none⟩ = some (.int .i64 ((rd_T57 t434 x8_3).f1))) (ds := []) #[false, false, false, false, false, false, false, false, false, false, false, false, false, false, false, false, false, false, false, false, false, false, false, false, false, false, false, false, false, false, false] (by kernel_rfl) rfl rfl ⟨(bkC BK433.out 0).trans rfl, (bkC BK433.out 1).trans rfl, (bkC BK433.out 2).trans rfl, (bkC BK433.out 3).trans rfl, hx446_0, hx446_1, hx446_2, hx446_3, hx446_4, hx448_0, hx448_1, hx448_2, hx448_3, hx448_4, hx449_0, hx449_1, hx449_2, hx449_3, hx449_4⟩ (fun hH => ?_); refine with_tabW laws_FnCastNew.tab16 laws_FnCastNew.bits16 (fun HT_ HW_ => ?_); generalize w40.drew = w47 at HO_3 HO_5 BK433 HB hx446_0 hx446_1 hx446_2 hx446_3 hx446_4 hx448_0 hx448_1 hx448_2 hx448_3 hx448_4 hx449_0 hx449_1 hx449_2 hx449_3 hx449_4 hH ⊢; refine pure_ (i := 1) (N := some 63) (v := ?_) (a' := ?_) #[false, true, false, false, false, false, false, false, false, false, false, false, false, false, false, false, false, false, false, false, false, false, false, false, false, false, false, false, false, false, false] rfl rfl (any_of HT_.out (by kernel_rfl)) (fun _ _ _ h => h) (Or.inl ⟨by rfl, ?_⟩) ?_ ?_; rotate_left
                 ·intro w'; go_simp; with_reducible rfl
                 rotate_left
                 ·simp only [pS, i64_w, i32_w]; rfl
                 refine pure_ (i := 2) (N := some 64) (v := ?_) (a' := ?_) #[false, true, true, false, false, false, false, false, false, false, false, false, false, false, false, false, false, false, false, false, false, false, false, false, false, false, false, false, false, false, false] rfl rfl (any_of HT_.out (by kernel_rfl)) (fun _ _ _ h => h) (Or.inl ⟨by rfl, ?_⟩) ?_ ?_; rotate_left
                 ·intro w'; go_simp; with_reducible rfl
                 rotate_left
                 ·simp only [pS, i64_w, i32_w]; rfl
                 refine pure_ (i := 3) (N := some 65) (v := ?_) (a' := ?_) #[false, true, true, true, false, false, false, false, false, false, false, false, false, false, false, false, false, false, false, false, false, false, false, false, false, false, false, false, false, false, false] rfl rfl (any_of HT_.out (by kernel_rfl)) (fun _ _ _ h => h) (Or.inl ⟨by rfl, ?_⟩) ?_ ?_; rotate_left
                 ·intro w'; go_simp; with_reducible rfl
                 rotate_left
                 ·simp only [pS, i64_w, i32_w]; rfl
                 refine pure_ (i := 4) (N := some 66) (v := ?_) (a' := ?_) #[false, true, true, true, true, false, false, false, false, false, false, false, false, false, false, false, false, false, false, false, false, false, false, false, false, false, false, false, false, false, false] rfl rfl (any_of HT_.out (by kernel_rfl)) (fun _ _ _ h => h) (Or.inl ⟨by rfl, ?_⟩) ?_ ?_; rotate_left
                 ·intro w'; go_simp; with_reducible rfl
                 rotate_left
                 ·simp only [pS, i64_w, i32_w]; rfl
                 refine take_ (i := 0) (N := some 62) (v := ?_) (a' := ?_) #[true, true, true, true, true, false, false, false, false, false, false, false, false, false, false, false, false, false, false, false, false, false, false, false, false, false, false, false, false, false, false] rfl rfl (take_ofW HT_.out HW_.out (by kernel_rfl)) (fun _ _ _ h => h) (Or.inl ⟨by rfl, ?_⟩) hH ?_ ?_; rotate_left
                 ·rintro w' ⟨s0, s1, s2, s3, s4, s5, s6, s7, s8, s9, s10, s11, s12, s13, s14, s15, s16, s17, s18⟩; go_simp; with_reducible rfl
                 rotate_left
                 ·simp only [pS, i64_w, i32_w]; rfl
                 refine take_ (i := 5) (N := some 67) (v := ?_) (a' := ?_) #[true, true, true, true, true, true, false, false, false, false, false, false, false, false, false, false, false, false, false, false, false, false, false, false, false, false, false, false, false, false, false] rfl rfl (take_ofW HT_.out HW_.out (by kernel_rfl)) (fun _ _ _ h => h) (Or.inl ⟨by rfl, ?_⟩) hH ?_ ?_; rotate_left
                 ·rintro w' ⟨s0, s1, s2, s3, s4, s5, s6, s7, s8, s9, s10, s11, s12, s13, s14, s15, s16, s17, s18⟩; go_simp; with_reducible rfl
                 rotate_left
                 ·simp only [pS, i64_w, i32_w]; rfl
                 refine one_ (i := 6) (N := some 68) #[true, true, true, true, true, true, true, false, false, false, false, false, false, false, false, false, false, false, false, false, false, false, false, false, false, false, false, false, false, false, false] rfl rfl (one_of HT_.out (by kernel_rfl)) (by decide) (fun K hK => ?_); refine goes_ Try.func37 (by kernel_rfl) rfl #[.agg #[.int .i64 t429, .int .i64 t430, .int .i64 t431, .bool t432], .agg #[.int .i64 ((rd_T57 t434 x8_3).f0.f0), .int .i64 ((rd_T57 t434 x8_3).f0.f1), .int .i64 ((rd_T57 t434 x8_3).f0.f2), .bool ((rd_T57 t434 x8_3).f0.f3)]] (by rfl) rfl rfl (by (try simp only [List.map_toArray, List.map_cons, List.map_nil]); first | done | rfl | (simp only [List.length_drop, List.length_take]; rfl)) ?_; with_reducible refine (impl_FactOver.calls k3 t429 t430 t431 t432 ((rd_T57 t434 x8_3).f0.f0) ((rd_T57 t434 x8_3).f0.f1) ((rd_T57 t434 x8_3).f0.f2) ((rd_T57 t434 x8_3).f0.f3) false _ A41.out).mono ?_
                 rintro e w48 ⟨rfl, hb⟩; have HS4_ := (hb.cell (World.block_lt_of_cell? _ _ (hH.2.2.2.2.1))).trans (hH.2.2.2.2.1); have HS5_ := (hb.cell (World.block_lt_of_cell? _ _ (hH.2.2.2.2.2.1))).trans (hH.2.2.2.2.2.1); have HS6_ := (hb.cell (World.block_lt_of_cell? _ _ (hH.2.2.2.2.2.2.1))).trans (hH.2.2.2.2.2.2.1); have HS7_ := (hb.cell (World.block_lt_of_cell? _ _ (hH.2.2.2.2.2.2.2.1))).trans (hH.2.2.2.2.2.2.2.1); have HS8_ := (hb.cell (World.block_lt_of_cell? _ _ (hH.2.2.2.2.2.2.2.2.1))).trans (hH.2.2.2.2.2.2.2.2.1); have HS9_ := (hb.cell (World.block_lt_of_cell? _ _ (hH.2.2.2.2.2.2.2.2.2.1))).trans (hH.2.2.2.2.2.2.2.2.2.1); have HS10_ := (hb.cell (World.block_lt_of_cell? _ _ (hH.2.2.2.2.2.2.2.2.2.2.1))).trans (hH.2.2.2.2.2.2.2.2.2.2.1); have HS11_ := (hb.cell (World.block_lt_of_cell? _ _ (hH.2.2.2.2.2.2.2.2.2.2.2.1))).trans (hH.2.2.2.2.2.2.2.2.2.2.2.1); have HS12_ := (hb.cell (World.block_lt_of_cell? _ _ (hH.2.2.2.2.2.2.2.2.2.2.2.2.1))).trans (hH.2.2.2.2.2.2.2.2.2.2.2.2.1); have HS13_ := (hb.cell (World.block_lt_of_cell? _ _ (hH.2.2.2.2.2.2.2.2.2.2.2.2.2.1))).trans (hH.2.2.2.2.2.2.2.2.2.2.2.2.2.1); have HS14_ := (hb.cell (World.block_lt_of_cell? _ _ (hH.2.2.2.2.2.2.2.2.2.2.2.2.2.2.1))).trans (hH.2.2.2.2.2.2.2.2.2.2.2.2.2.2.1); have HS15_ := (hb.cell (World.block_lt_of_cell? _ _ (hH.2.2.2.2.2.2.2.2.2.2.2.2.2.2.2.1))).trans (hH.2.2.2.2.2.2.2.2.2.2.2.2.2.2.2.1); have HS16_ := (hb.cell (World.block_lt_of_cell? _ _ (hH.2.2.2.2.2.2.2.2.2.2.2.2.2.2.2.2.1))).trans (hH.2.2.2.2.2.2.2.2.2.2.2.2.2.2.2.2.1); have HS17_ := (hb.cell (World.block_lt_of_cell? _ _ (hH.2.2.2.2.2.2.2.2.2.2.2.2.2.2.2.2.2.1))).trans (hH.2.2.2.2.2.2.2.2.2.2.2.2.2.2.2.2.2.1); have HS18_ := (hb.cell (World.block_lt_of_cell? _ _ (hH.2.2.2.2.2.2.2.2.2.2.2.2.2.2.2.2.2.2))).trans (hH.2.2.2.2.2.2.2.2.2.2.2.2.2.2.2.2.2.2); refine ⟨_, rfl, ?_⟩; have n0_ := Zz.mk (Kd.R_below (by (with_reducible repeat (first | apply Kd.RA | apply Kd.RN | apply Kd.RD)); exact HO_3.out) hb); have n1_ := Zz.mk (Kd.R_below (by (with_reducible repeat (first | apply Kd.RA | apply Kd.RN | apply Kd.RD)); exact HO_5.out) hb); have n2_ := Zz.mk (bkB (g := gb433) (o := .cells #[.int .i64 t429, .int .i64 t430, .int .i64 t431, .bool t432] 30 (0, 0)) (by (with_reducible repeat (first | refine bkN ?_ _ | refine bkD ?_ | refine bkA ?_ _)); exact BK433.out) hb); have n3_ := Zz.mk (bwP (by repeat (first | (with_reducible first | exact HB.out | apply bwA | apply pwN | apply bw1 | refine bwS ?_ GE433.out) | exact HB.out)) hb); clear HO_3; clear HO_5; clear BK433; clear HB; have HO_3 := n0_; have HO_5 := n1_; have BK433 := n2_; have HB := n3_; clear n0_ n1_ n2_ n3_; (try clear hb)
                 (try clear A41)
                 refine hK.out _ _ ⟨(bkC BK433.out 0).trans rfl, (bkC BK433.out 1).trans rfl, (bkC BK433.out 2).trans rfl, (bkC BK433.out 3).trans rfl, HS4_, HS5_, HS6_, HS7_, HS8_, HS9_, HS10_, HS11_, HS12_, HS13_, HS14_, HS15_, HS16_, HS17_, HS18_⟩ (fun hH => ?_); clear hK K; refine norm_ (a' := ?_) ?_ ?_; rotate_left
                 ·show Act.put _ (some 68) _ = _
                  simp only [pS, i64_w, i32_w]; rfl
                 refine pure_ (i := 7) (N := some 69) (v := ?_) (a' := ?_) #[true, true, true, true, true, true, true, true, false, false, false, false, false, false, false, false, false, false, false, false, false, false, false, false, false, false, false, false, false, false, false] rfl rfl (any_of HT_.out (by kernel_rfl)) (fun _ _ _ h => h) (Or.inl ⟨by rfl, ?_⟩) ?_ ?_; rotate_left
                 ·intro w'; go_simp; with_reducible rfl
                 rotate_left
                 ·simp only [pS, i64_w, i32_w]; rfl
                 refine pure_ (i := 8) (N := some 70) (v := ?_) (a' := ?_) #[true, true, true, true, true, true, true, true, true, false, false, false, false, false, false, false, false, false, false, false, false, false, false, false, false, false, false, false, false, false, false] rfl rfl (any_of HT_.out (by kernel_rfl)) (fun _ _ _ h => h) (Or.inl ⟨by rfl, ?_⟩) ?_ ?_; rotate_left
                 ·intro w'; go_simp; with_reducible rfl
                 rotate_left
                 ·simp only [pS, i64_w, i32_w]; rfl
                 refine pure_ (i := 9) (N := some 71) (v := ?_) (a' := ?_) #[true, true, true, true, true, true, true, true, true, true, false, false, false, false, false, false, false, false, false, false, false, false, false, false, false, false, false, false, false, false, false] rfl rfl (any_of HT_.out (by kernel_rfl)) (fun _ _ _ h => h) (Or.inl ⟨by rfl, ?_⟩) ?_ ?_; rotate_left
                 ·intro w'; go_simp; with_reducible rfl
                 rotate_left
                 ·simp only [pS, i64_w, i32_w]; rfl
                 refine pure_ (i := 10) (N := some 72) (v := ?_) (a' := ?_) #[true, true, true, true, true, true, true, true, true, true, true, false, false, false, false, false, false, false, false, false, false, false, false, false, false, false, false, false, false, false, false] rfl rfl (any_of HT_.out (by kernel_rfl)) (fun _ _ _ h => h) (Or.inl ⟨by rfl, ?_⟩) ?_ ?_; rotate_left
                 ·intro w'; go_simp; with_reducible rfl
                 rotate_left
                 ·simp only [pS, i64_w, i32_w]; rfl
                 refine pure_ (i := 11) (N := some 73) (v := ?_) (a' := ?_) #[true, true, true, true, true, true, true, true, true, true, true, true, false, false, false, false, false, false, false, false, false, false, false, false, false, false, false, false, false, false, false] rfl rfl (any_of HT_.out (by kernel_rfl)) (fun _ _ _ h => h) (Or.inl ⟨by rfl, ?_⟩) ?_ ?_; rotate_left
                 ·intro w'; go_simp; with_reducible rfl
                 rotate_left
                 ·simp only [pS, i64_w, i32_w]; rfl
                 refine take_ (i := 12) (N := some 74) (v := ?_) (a' := ?_) #[true, true, true, true, true, true, true, true, true, true, true, true, true, false, false, false, false, false, false, false, false, false, false, false, false, false, false, false, false, false, false] rfl rfl (take_ofW HT_.out HW_.out (by kernel_rfl)) (fun _ _ _ h => h) (Or.inl ⟨by rfl, ?_⟩) hH ?_ ?_; rotate_left
                 ·rintro w' ⟨s0, s1, s2, s3, s4, s5, s6, s7, s8, s9, s10, s11, s12, s13, s14, s15, s16, s17, s18⟩; go_simp; with_reducible rfl
                 rotate_left
                 ·simp only [pS, i64_w, i32_w]; rfl
                 refine take_ (i := 13) (N := some 75) (v := ?_) (a' := ?_) #[true, true, true, true, true, true, true, true, true, true, true, true, true, true, false, false, false, false, false, false, false, false, false, false, false, false, false, false, false, false, false] rfl rfl (take_ofW HT_.out HW_.out (by kernel_rfl)) (fun _ _ _ h => h) (Or.inl ⟨by rfl, ?_⟩) hH ?_ ?_; rotate_left
                 ·rintro w' ⟨s0, s1, s2, s3, s4, s5, s6, s7, s8, s9, s10, s11, s12, s13, s14, s15, s16, s17, s18⟩; go_simp; with_reducible rfl
                 rotate_left
                 ·simp only [pS, i64_w, i32_w]; rfl
                 refine pure_ (i := 14) (N := some 76) (v := ?_) (a' := ?_) #[true, true, true, true, true, true, true, true, true, true, true, true, true, true, true, false, false, false, false, false, false, false, false, false, false, false, false, false, false, false, false] rfl rfl (any_of HT_.out (by kernel_rfl)) (fun _ _ _ h => h) (Or.inl ⟨by rfl, ?_⟩) ?_ ?_; rotate_left
                 ·intro w'; go_simp; with_reducible rfl
                 rotate_left
                 ·simp only [pS, i64_w, i32_w]; rfl
                 refine pure_ (i := 15) (N := some 77) (v := ?_) (a' := ?_) #[true, true, true, true, true, true, true, true, true, true, true, true, true, true, true, true, false, false, false, false, false, false, false, false, false, false, false, false, false, false, false] rfl rfl (any_of HT_.out (by kernel_rfl)) (fun _ _ _ h => h) (Or.inl ⟨by rfl, ?_⟩) ?_ ?_; rotate_left
                 ·intro w'; go_simp; with_reducible rfl
                 rotate_left
                 ·simp only [pS, i64_w, i32_w]; rfl
                 refine pure_ (i := 16) (N := some 78) (v := ?_) (a' := ?_) #[true, true, true, true, true, true, true, true, true, true, true, true, true, true, true, true, true, false, false, false, false, false, false, false, false, false, false, false, false, false, false] rfl rfl (any_of HT_.out (by kernel_rfl)) (fun _ _ _ h => h) (Or.inl ⟨by rfl, ?_⟩) ?_ ?_; rotate_left
                 ·intro w'; go_simp; with_reducible rfl
                 rotate_left
                 ·simp only [pS, i64_w, i32_w]; rfl
                 refine pure_ (i := 17) (N := some 79) (v := ?_) (a' := ?_) #[true, true, true, true, true, true, true, true, true, true, true, true, true, true, true, true, true, true, false, false, false, false, false, false, false, false, false, false, false, false, false] rfl rfl (any_of HT_.out (by kernel_rfl)) (fun _ _ _ h => h) (Or.inl ⟨by rfl, ?_⟩) ?_ ?_; rotate_left
                 ·intro w'; go_simp; with_reducible rfl
                 rotate_left
                 ·simp only [pS, i64_w, i32_w]; rfl
                 refine pure_ (i := 18) (N := some 80) (v := ?_) (a' := ?_) #[true, true, true, true, true, true, true, true, true, true, true, true, true, true, true, true, true, true, true, false, false, false, false, false, false, false, false, false, false, false, false] rfl rfl (any_of HT_.out (by kernel_rfl)) (fun _ _ _ h => h) (Or.inl ⟨by rfl, ?_⟩) ?_ ?_; rotate_left
                 ·intro w'; go_simp; with_reducible rfl
                 rotate_left
                 ·simp only [pS, i64_w, i32_w]; rfl
                 refine pure_ (i := 19) (N := some 81) (v := ?_) (a' := ?_) #[true, true, true, true, true, true, true, true, true, true, true, true, true, true, true, true, true, true, true, true, false, false, false, false, false, false, false, false, false, false, false] rfl rfl (any_of HT_.out (by kernel_rfl)) (fun _ _ _ h => h) (Or.inl ⟨by rfl, ?_⟩) ?_ ?_; rotate_left
                 ·intro w'; go_simp; with_reducible rfl
                 rotate_left
                 ·simp only [pS, i64_w, i32_w]; rfl
                 refine pure_ (i := 20) (N := some 82) (v := ?_) (a' := ?_) #[true, true, true, true, true, true, true, true, true, true, true, true, true, true, true, true, true, true, true, true, true, false, false, false, false, false, false, false, false, false, false] rfl rfl (any_of HT_.out (by kernel_rfl)) (fun _ _ _ h => h) (Or.inl ⟨by rfl, ?_⟩) ?_ ?_; rotate_left
                 ·intro w'; go_simp; with_reducible rfl
                 rotate_left
                 ·simp only [pS, i64_w, i32_w]; rfl
                 refine pure_ (i := 21) (N := some 83) (v := ?_) (a' := ?_) #[true, true, true, true, true, true, true, true, true, true, true, true, true, true, true, true, true, true, true, true, true, true, false, false, false, false, false, false, false, false, false] rfl rfl (any_of HT_.out (by kernel_rfl)) (fun _ _ _ h => h) (Or.inl ⟨by rfl, ?_⟩) ?_ ?_; rotate_left
                 ·intro w'; go_simp; with_reducible rfl
                 rotate_left
                 ·simp only [pS, i64_w, i32_w]; rfl
                 refine pure_ (i := 22) (N := some 84) (v := ?_) (a' := ?_) #[true, true, true, true, true, true, true, true, true, true, true, true, true, true, true, true, true, true, true, true, true, true, true, false, false, false, false, false, false, false, false] rfl rfl (any_of HT_.out (by kernel_rfl)) (fun _ _ _ h => h) (Or.inl ⟨by rfl, ?_⟩) ?_ ?_; rotate_left
                 ·intro w'; go_simp; with_reducible rfl
                 rotate_left
                 ·simp only [pS, i64_w, i32_w]; rfl
                 refine pure_ (i := 23) (N := some 85) (v := ?_) (a' := ?_) #[true, true, true, true, true, true, true, true, true, true, true, true, true, true, true, true, true, true, true, true, true, true, true, true, false, false, false, false, false, false, false] rfl rfl (any_of HT_.out (by kernel_rfl)) (fun _ _ _ h => h) (Or.inl ⟨by rfl, ?_⟩) ?_ ?_; rotate_left
                 ·intro w'; go_simp; with_reducible rfl
                 rotate_left
                 ·simp only [pS, i64_w, i32_w]; rfl
                 refine pure_ (i := 24) (N := some 86) (v := ?_) (a' := ?_) #[true, true, true, true, true, true, true, true, true, true, true, true, true, true, true, true, true, true, true, true, true, true, true, true, true, false, false, false, false, false, false] rfl rfl (any_of HT_.out (by kernel_rfl)) (fun _ _ _ h => h) (Or.inl ⟨by rfl, ?_⟩) ?_ ?_; rotate_left
                 ·intro w'; go_simp; with_reducible rfl
                 rotate_left
                 ·simp only [pS, i64_w, i32_w]; rfl
                 refine pure_ (i := 25) (N := some 87) (v := ?_) (a' := ?_) #[true, true, true, true, true, true, true, true, true, true, true, true, true, true, true, true, true, true, true, true, true, true, true, true, true, true, false, false, false, false, false] rfl rfl (any_of HT_.out (by kernel_rfl)) (fun _ _ _ h => h) (Or.inl ⟨by rfl, ?_⟩) ?_ ?_; rotate_left
                 ·intro w'; go_simp; with_reducible rfl
                 rotate_left
                 ·simp only [pS, i64_w, i32_w]; rfl
                 refine pure_ (i := 26) (N := some 88) (v := ?_) (a' := ?_) #[true, true, true, true, true, true, true, true, true, true, true, true, true, true, true, true, true, true, true, true, true, true, true, true, true, true, true, false, false, false, false] rfl rfl (any_of HT_.out (by kernel_rfl)) (fun _ _ _ h => h) (Or.inl ⟨by rfl, ?_⟩) ?_ ?_; rotate_left
                 ·intro w'; go_simp; with_reducible rfl
                 rotate_left
                 ·simp only [pS, i64_w, i32_w]; rfl
                 refine take_ (i := 27) (N := some 89) (v := ?_) (a' := ?_) #[true, true, true, true, true, true, true, true, true, true, true, true, true, true, true, true, true, true, true, true, true, true, true, true, true, true, true, true, false, false, false] rfl rfl (take_ofW HT_.out HW_.out (by kernel_rfl)) (fun _ _ _ h => h) (Or.inl ⟨by rfl, ?_⟩) hH ?_ ?_; rotate_left
                 ·rintro w' ⟨s0, s1, s2, s3, s4, s5, s6, s7, s8, s9, s10, s11, s12, s13, s14, s15, s16, s17, s18⟩; go_simp; with_reducible rfl
                 rotate_left
                 ·simp only [pS, i64_w, i32_w]; rfl
                 refine pure_ (i := 28) (N := some 90) (v := ?_) (a' := ?_) #[true, true, true, true, true, true, true, true, true, true, true, true, true, true, true, true, true, true, true, true, true, true, true, true, true, true, true, true, true, false, false] rfl rfl (any_of HT_.out (by kernel_rfl)) (fun _ _ _ h => h) (Or.inl ⟨by rfl, ?_⟩) ?_ ?_; rotate_left
                 ·intro w'; go_simp; with_reducible rfl
                 rotate_left
                 ·simp only [pS, i64_w, i32_w]; rfl
                 refine pure_ (i := 29) (N := some 91) (v := ?_) (a' := ?_) #[true, true, true, true, true, true, true, true, true, true, true, true, true, true, true, true, true, true, true, true, true, true, true, true, true, true, true, true, true, true, false] rfl rfl (any_of HT_.out (by kernel_rfl)) (fun _ _ _ h => h) (Or.inl ⟨by rfl, ?_⟩) ?_ ?_; rotate_left
                 ·intro w'; go_simp; with_reducible rfl
                 rotate_left
                 ·simp only [pS, i64_w, i32_w]; rfl
                 refine pure_ (i := 30) (N := some 92) (v := ?_) (a' := ?_) #[true, true, true, true, true, true, true, true, true, true, true, true, true, true, true, true, true, true, true, true, true, true, true, true, true, true, true, true, true, true, true] rfl rfl (any_of HT_.out (by kernel_rfl)) (fun _ _ _ h => h) (Or.inl ⟨by rfl, ?_⟩) ?_ ?_; rotate_left
                 ·intro w'; go_simp; with_reducible rfl
                 rotate_left
                 ·simp only [pS, i64_w, i32_w]; rfl
                 refine done_ (done_of HT_.out (by kernel_rfl)) ?_; try go_wp2
                 go_meet
                 case rel => exact ⟨_, ((((rd_T57 t434 x8_3).f1) != 4)), (by first | rfl | (simp; done) | (simp [*]; done)), H', ⟨by have := HJ5.out; have := HJ24.out; have := HK3.out; first | omega | exact Nat.le_refl _⟩, ⟨by (with_reducible repeat (first | apply Kd.RA | apply Kd.RN | apply Kd.RD)); exact HO_3.out⟩, ⟨by (with_reducible repeat (first | apply Kd.RA | apply Kd.RN | apply Kd.RD)); exact HO_5.out⟩, ⟨by (with_reducible repeat (first | refine bkN ?_ _ | refine bkD ?_ | refine bkA ?_ _)); exact BK433.out⟩, ⟨by repeat (first | (with_reducible first | exact HB.out | apply bwA | apply pwN | apply bw1 | refine bwS ?_ GE433.out) | exact HB.out)⟩⟩
                ·rw [if_neg c46] at H
                 have c46b0 : decide ((t426.length : Int) < (t434.length : Int)) = false := decide_eq_false c46; have c46b1 : decide (t426.length < t434.length) = false := decide_eq_false (fun h => c46 (Int.ofNat_lt.mpr h)); clear c46; have H' := Zz.mk H; clear H; try go_wp2
                 have n0_ := Zz.mk (Kd.RD HO_3.out); have n1_ := Zz.mk (Kd.RD HO_5.out); have n2_ := Zz.mk (bkD BK433.out); have n3_ := Zz.mk (bw1 HB.out); clear HO_3; clear HO_5; clear BK433; clear HB; have HO_3 := n0_; have HO_5 := n1_; have BK433 := n2_; have HB := n3_; clear n0_ n1_ n2_ n3_; have p446 : 0 ≤ (x8_3 : Int) := of_decide_eq_true (by first | (with_reducible assumption) | assumption); have q446 : x8_3 < (t434.length : Int) := of_decide_eq_true (by first | (with_reducible assumption) | assumption); obtain ⟨ad446, e446, hx446_0, hx446_1, hx446_2, hx446_3, hx446_4⟩ := at_T57 (Kd.R_reads' HO_5.out).2.2 x8_3 p446 q446; obtain rfl : ad445 = ad446 := (by injection e446)
                 replace p446 := eq_true p446; replace q446 := eq_true q446; have p448 : 0 ≤ (x8_3 : Int) := of_decide_eq_true (by first | (with_reducible assumption) | assumption); have q448 : x8_3 < (t434.length : Int) := of_decide_eq_true (by first | (with_reducible assumption) | assumption); obtain ⟨ad448, e448, hx448_0, hx448_1, hx448_2, hx448_3, hx448_4⟩ := at_T57 (Kd.R_reads' HO_5.out).2.2 x8_3 p448 q448; obtain rfl : ad445 = ad448 := (by injection e448)
                 replace p448 := eq_true p448; replace q448 := eq_true q448; refine start_ (n := 31) (S := fun w' => w'.cell? ⟨gb433, 0, none⟩ = some (.int .i64 t429) ∧ w'.cell? ⟨gb433, 1, none⟩ = some (.int .i64 t430) ∧ w'.cell? ⟨gb433, 2, none⟩ = some (.int .i64 t431) ∧ w'.cell? ⟨gb433, 3, none⟩ = some (.bool t432) ∧ w'.cell? (ad445.add ((x8_3).toNat * 5)) = some (.int .i64 ((rd_T57 t434 x8_3).f0.f0)) ∧ w'.cell? ⟨(ad445.add ((x8_3).toNat * 5)).block, (ad445.add ((x8_3).toNat * 5)).off + 1, none⟩ = some (.int .i64 ((rd_T57 t434 x8_3).f0.f1)) ∧ w'.cell? ⟨(ad445.add ((x8_3).toNat * 5)).block, (ad445.add ((x8_3).toNat * 5)).off + 2, none⟩ = some (.int .i64 ((rd_T57 t434 x8_3).f0.f2)) ∧ w'.cell? ⟨(ad445.add ((x8_3).toNat * 5)).block, (ad445.add ((x8_3).toNat * 5)).off + 3, none⟩ = some (.bool ((rd_T57 t434 x8_3).f0.f3)) ∧ w'.cell? ⟨(ad445.add ((x8_3).toNat * 5)).block, (ad445.add ((x8_3).toNat * 5)).off + 4, none⟩ = some (.int .i64 ((rd_T57 t434 x8_3).f1)) ∧ w'.cell? (ad445.add ((x8_3).toNat * 5)) = some (.int .i64 ((rd_T57 t434 x8_3).f0.f0)) ∧ w'.cell? ⟨(ad445.add ((x8_3).toNat * 5)).block, (ad445.add ((x8_3).toNat * 5)).off + 1, none⟩ = some (.int .i64 ((rd_T57 t434 x8_3).f0.f1)) ∧ w'.cell? ⟨(ad445.add ((x8_3).toNat * 5)).block, (ad445.add ((x8_3).toNat * 5)).off + 2, none⟩ = some (.int .i64 ((rd_T57 t434 x8_3).f0.f2)) ∧ w'.cell? ⟨(ad445.add ((x8_3).toNat * 5)).block, (ad445.add ((x8_3).toNat * 5)).off + 3, none⟩ = some (.bool ((rd_T57 t434 x8_3).f0.f3)) ∧ w'.cell? ⟨(ad445.add ((x8_3).toNat * 5)).block, (ad445.add ((x8_3).toNat * 5)).off + 4, none⟩ = some (.int .i64 ((rd_T57 t434 x8_3).f1))) (ds := []) #[false, false, false, false, false, false, false, false, false, false, false, false, false, false, false, false, false, false, false, false, false, false, false, false, false, false, false, false, false, false, false] (by kernel_rfl) rfl rfl ⟨(bkC BK433.out 0).trans rfl, (bkC BK433.out 1).trans rfl, (bkC BK433.out 2).trans rfl, (bkC BK433.out 3).trans rfl, hx446_0, hx446_1, hx446_2, hx446_3, hx446_4, hx448_0, hx448_1, hx448_2, hx448_3, hx448_4⟩ (fun hH => ?_); refine with_tabW laws_FnCastNew.tab16 laws_FnCastNew.bits16 (fun HT_ HW_ => ?_); generalize w40.drew = w49 at HO_3 HO_5 BK433 HB hx446_0 hx446_1 hx446_2 hx446_3 hx446_4 hx448_0 hx448_1 hx448_2 hx448_3 hx448_4 hH ⊢; refine pure_ (i := 1) (N := some 63) (v := ?_) (a' := ?_) #[false, true, false, false, false, false, false, false, false, false, false, false, false, false, false, false, false, false, false, false, false, false, false, false, false, false, false, false, false, false, false] rfl rfl (any_of HT_.out (by kernel_rfl)) (fun _ _ _ h => h) (Or.inl ⟨by rfl, ?_⟩) ?_ ?_; rotate_left
                 ·intro w'; go_simp; with_reducible rfl
                 rotate_left
                 ·simp only [pS, i64_w, i32_w]; rfl
                 refine pure_ (i := 2) (N := some 64) (v := ?_) (a' := ?_) #[false, true, true, false, false, false, false, false, false, false, false, false, false, false, false, false, false, false, false, false, false, false, false, false, false, false, false, false, false, false, false] rfl rfl (any_of HT_.out (by kernel_rfl)) (fun _ _ _ h => h) (Or.inl ⟨by rfl, ?_⟩) ?_ ?_; rotate_left
                 ·intro w'; go_simp; with_reducible rfl
                 rotate_left
                 ·simp only [pS, i64_w, i32_w]; rfl
                 refine pure_ (i := 3) (N := some 65) (v := ?_) (a' := ?_) #[false, true, true, true, false, false, false, false, false, false, false, false, false, false, false, false, false, false, false, false, false, false, false, false, false, false, false, false, false, false, false] rfl rfl (any_of HT_.out (by kernel_rfl)) (fun _ _ _ h => h) (Or.inl ⟨by rfl, ?_⟩) ?_ ?_; rotate_left
                 ·intro w'; go_simp; with_reducible rfl
                 rotate_left
                 ·simp only [pS, i64_w, i32_w]; rfl
                 refine pure_ (i := 4) (N := some 66) (v := ?_) (a' := ?_) #[false, true, true, true, true, false, false, false, false, false, false, false, false, false, false, false, false, false, false, false, false, false, false, false, false, false, false, false, false, false, false] rfl rfl (any_of HT_.out (by kernel_rfl)) (fun _ _ _ h => h) (Or.inl ⟨by rfl, ?_⟩) ?_ ?_; rotate_left
                 ·intro w'; go_simp; with_reducible rfl
                 rotate_left
                 ·simp only [pS, i64_w, i32_w]; rfl
                 refine take_ (i := 0) (N := some 62) (v := ?_) (a' := ?_) #[true, true, true, true, true, false, false, false, false, false, false, false, false, false, false, false, false, false, false, false, false, false, false, false, false, false, false, false, false, false, false] rfl rfl (take_ofW HT_.out HW_.out (by kernel_rfl)) (fun _ _ _ h => h) (Or.inl ⟨by rfl, ?_⟩) hH ?_ ?_; rotate_left
                 ·rintro w' ⟨s0, s1, s2, s3, s4, s5, s6, s7, s8, s9, s10, s11, s12, s13⟩; go_simp; with_reducible rfl
                 rotate_left
                 ·simp only [pS, i64_w, i32_w]; rfl
                 refine take_ (i := 5) (N := some 67) (v := ?_) (a' := ?_) #[true, true, true, true, true, true, false, false, false, false, false, false, false, false, false, false, false, false, false, false, false, false, false, false, false, false, false, false, false, false, false] rfl rfl (take_ofW HT_.out HW_.out (by kernel_rfl)) (fun _ _ _ h => h) (Or.inl ⟨by rfl, ?_⟩) hH ?_ ?_; rotate_left
                 ·rintro w' ⟨s0, s1, s2, s3, s4, s5, s6, s7, s8, s9, s10, s11, s12, s13⟩; go_simp; with_reducible rfl
                 rotate_left
                 ·simp only [pS, i64_w, i32_w]; rfl
                 refine one_ (i := 6) (N := some 68) #[true, true, true, true, true, true, true, false, false, false, false, false, false, false, false, false, false, false, false, false, false, false, false, false, false, false, false, false, false, false, false] rfl rfl (one_of HT_.out (by kernel_rfl)) (by decide) (fun K hK => ?_); refine goes_ Try.func37 (by kernel_rfl) rfl #[.agg #[.int .i64 t429, .int .i64 t430, .int .i64 t431, .bool t432], .agg #[.int .i64 ((rd_T57 t434 x8_3).f0.f0), .int .i64 ((rd_T57 t434 x8_3).f0.f1), .int .i64 ((rd_T57 t434 x8_3).f0.f2), .bool ((rd_T57 t434 x8_3).f0.f3)]] (by rfl) rfl rfl (by (try simp only [List.map_toArray, List.map_cons, List.map_nil]); first | done | rfl | (simp only [List.length_drop, List.length_take]; rfl)) ?_; with_reducible refine (impl_FactOver.calls k3 t429 t430 t431 t432 ((rd_T57 t434 x8_3).f0.f0) ((rd_T57 t434 x8_3).f0.f1) ((rd_T57 t434 x8_3).f0.f2) ((rd_T57 t434 x8_3).f0.f3) false _ A41.out).mono ?_
                 rintro e w50 ⟨rfl, hb⟩; have HS4_ := (hb.cell (World.block_lt_of_cell? _ _ (hH.2.2.2.2.1))).trans (hH.2.2.2.2.1); have HS5_ := (hb.cell (World.block_lt_of_cell? _ _ (hH.2.2.2.2.2.1))).trans (hH.2.2.2.2.2.1); have HS6_ := (hb.cell (World.block_lt_of_cell? _ _ (hH.2.2.2.2.2.2.1))).trans (hH.2.2.2.2.2.2.1); have HS7_ := (hb.cell (World.block_lt_of_cell? _ _ (hH.2.2.2.2.2.2.2.1))).trans (hH.2.2.2.2.2.2.2.1); have HS8_ := (hb.cell (World.block_lt_of_cell? _ _ (hH.2.2.2.2.2.2.2.2.1))).trans (hH.2.2.2.2.2.2.2.2.1); have HS9_ := (hb.cell (World.block_lt_of_cell? _ _ (hH.2.2.2.2.2.2.2.2.2.1))).trans (hH.2.2.2.2.2.2.2.2.2.1); have HS10_ := (hb.cell (World.block_lt_of_cell? _ _ (hH.2.2.2.2.2.2.2.2.2.2.1))).trans (hH.2.2.2.2.2.2.2.2.2.2.1); have HS11_ := (hb.cell (World.block_lt_of_cell? _ _ (hH.2.2.2.2.2.2.2.2.2.2.2.1))).trans (hH.2.2.2.2.2.2.2.2.2.2.2.1); have HS12_ := (hb.cell (World.block_lt_of_cell? _ _ (hH.2.2.2.2.2.2.2.2.2.2.2.2.1))).trans (hH.2.2.2.2.2.2.2.2.2.2.2.2.1); have HS13_ := (hb.cell (World.block_lt_of_cell? _ _ (hH.2.2.2.2.2.2.2.2.2.2.2.2.2))).trans (hH.2.2.2.2.2.2.2.2.2.2.2.2.2); refine ⟨_, rfl, ?_⟩; have n0_ := Zz.mk (Kd.R_below (by (with_reducible repeat (first | apply Kd.RA | apply Kd.RN | apply Kd.RD)); exact HO_3.out) hb); have n1_ := Zz.mk (Kd.R_below (by (with_reducible repeat (first | apply Kd.RA | apply Kd.RN | apply Kd.RD)); exact HO_5.out) hb); have n2_ := Zz.mk (bkB (g := gb433) (o := .cells #[.int .i64 t429, .int .i64 t430, .int .i64 t431, .bool t432] 30 (0, 0)) (by (with_reducible repeat (first | refine bkN ?_ _ | refine bkD ?_ | refine bkA ?_ _)); exact BK433.out) hb); have n3_ := Zz.mk (bwP (by repeat (first | (with_reducible first | exact HB.out | apply bwA | apply pwN | apply bw1 | refine bwS ?_ GE433.out) | exact HB.out)) hb); clear HO_3; clear HO_5; clear BK433; clear HB; have HO_3 := n0_; have HO_5 := n1_; have BK433 := n2_; have HB := n3_; clear n0_ n1_ n2_ n3_; (try clear hb)
                 (try clear A41)
                 refine hK.out _ _ ⟨(bkC BK433.out 0).trans rfl, (bkC BK433.out 1).trans rfl, (bkC BK433.out 2).trans rfl, (bkC BK433.out 3).trans rfl, HS4_, HS5_, HS6_, HS7_, HS8_, HS9_, HS10_, HS11_, HS12_, HS13_⟩ (fun hH => ?_); clear hK K; refine norm_ (a' := ?_) ?_ ?_; rotate_left
                 ·show Act.put _ (some 68) _ = _
                  simp only [pS, i64_w, i32_w]; rfl
                 refine pure_ (i := 7) (N := some 69) (v := ?_) (a' := ?_) #[true, true, true, true, true, true, true, true, false, false, false, false, false, false, false, false, false, false, false, false, false, false, false, false, false, false, false, false, false, false, false] rfl rfl (any_of HT_.out (by kernel_rfl)) (fun _ _ _ h => h) (Or.inl ⟨by rfl, ?_⟩) ?_ ?_; rotate_left
                 ·intro w'; go_simp; with_reducible rfl
                 rotate_left
                 ·simp only [pS, i64_w, i32_w]; rfl
                 refine pure_ (i := 8) (N := some 70) (v := ?_) (a' := ?_) #[true, true, true, true, true, true, true, true, true, false, false, false, false, false, false, false, false, false, false, false, false, false, false, false, false, false, false, false, false, false, false] rfl rfl (any_of HT_.out (by kernel_rfl)) (fun _ _ _ h => h) (Or.inl ⟨by rfl, ?_⟩) ?_ ?_; rotate_left
                 ·intro w'; go_simp; with_reducible rfl
                 rotate_left
                 ·simp only [pS, i64_w, i32_w]; rfl
                 refine pure_ (i := 9) (N := some 71) (v := ?_) (a' := ?_) #[true, true, true, true, true, true, true, true, true, true, false, false, false, false, false, false, false, false, false, false, false, false, false, false, false, false, false, false, false, false, false] rfl rfl (any_of HT_.out (by kernel_rfl)) (fun _ _ _ h => h) (Or.inl ⟨by rfl, ?_⟩) ?_ ?_; rotate_left
                 ·intro w'; go_simp; with_reducible rfl
                 rotate_left
                 ·simp only [pS, i64_w, i32_w]; rfl
                 refine pure_ (i := 10) (N := some 72) (v := ?_) (a' := ?_) #[true, true, true, true, true, true, true, true, true, true, true, false, false, false, false, false, false, false, false, false, false, false, false, false, false, false, false, false, false, false, false] rfl rfl (any_of HT_.out (by kernel_rfl)) (fun _ _ _ h => h) (Or.inl ⟨by rfl, ?_⟩) ?_ ?_; rotate_left
                 ·intro w'; go_simp; with_reducible rfl
                 rotate_left
                 ·simp only [pS, i64_w, i32_w]; rfl
                 refine pure_ (i := 11) (N := some 73) (v := ?_) (a' := ?_) #[true, true, true, true, true, true, true, true, true, true, true, true, false, false, false, false, false, false, false, false, false, false, false, false, false, false, false, false, false, false, false] rfl rfl (any_of HT_.out (by kernel_rfl)) (fun _ _ _ h => h) (Or.inl ⟨by rfl, ?_⟩) ?_ ?_; rotate_left
                 ·intro w'; go_simp; with_reducible rfl
                 rotate_left
                 ·simp only [pS, i64_w, i32_w]; rfl
                 refine take_ (i := 12) (N := some 74) (v := ?_) (a' := ?_) #[true, true, true, true, true, true, true, true, true, true, true, true, true, false, false, false, false, false, false, false, false, false, false, false, false, false, false, false, false, false, false] rfl rfl (take_ofW HT_.out HW_.out (by kernel_rfl)) (fun _ _ _ h => h) (Or.inl ⟨by rfl, ?_⟩) hH ?_ ?_; rotate_left
                 ·rintro w' ⟨s0, s1, s2, s3, s4, s5, s6, s7, s8, s9, s10, s11, s12, s13⟩; go_simp; with_reducible rfl
                 rotate_left
                 ·simp only [pS, i64_w, i32_w]; rfl
                 refine take_ (i := 13) (N := some 75) (v := ?_) (a' := ?_) #[true, true, true, true, true, true, true, true, true, true, true, true, true, true, false, false, false, false, false, false, false, false, false, false, false, false, false, false, false, false, false] rfl rfl (take_ofW HT_.out HW_.out (by kernel_rfl)) (fun _ _ _ h => h) (Or.inl ⟨by rfl, ?_⟩) hH ?_ ?_; rotate_left
                 ·rintro w' ⟨s0, s1, s2, s3, s4, s5, s6, s7, s8, s9, s10, s11, s12, s13⟩; go_simp; with_reducible rfl
                 rotate_left
                 ·simp only [pS, i64_w, i32_w]; rfl
                 refine pure_ (i := 14) (N := some 76) (v := ?_) (a' := ?_) #[true, true, true, true, true, true, true, true, true, true, true, true, true, true, true, false, false, false, false, false, false, false, false, false, false, false, false, false, false, false, false] rfl rfl (any_of HT_.out (by kernel_rfl)) (fun _ _ _ h => h) (Or.inl ⟨by rfl, ?_⟩) ?_ ?_; rotate_left
                 ·intro w'; go_simp; with_reducible rfl
                 rotate_left
                 ·simp only [pS, i64_w, i32_w]; rfl
                 refine pure_ (i := 15) (N := some 77) (v := ?_) (a' := ?_) #[true, true, true, true, true, true, true, true, true, true, true, true, true, true, true, true, false, false, false, false, false, false, false, false, false, false, false, false, false, false, false] rfl rfl (any_of HT_.out (by kernel_rfl)) (fun _ _ _ h => h) (Or.inl ⟨by rfl, ?_⟩) ?_ ?_; rotate_left
                 ·intro w'; go_simp; with_reducible rfl
                 rotate_left
                 ·simp only [pS, i64_w, i32_w]; rfl
                 refine pure_ (i := 16) (N := some 78) (v := ?_) (a' := ?_) #[true, true, true, true, true, true, true, true, true, true, true, true, true, true, true, true, true, false, false, false, false, false, false, false, false, false, false, false, false, false, false] rfl rfl (any_of HT_.out (by kernel_rfl)) (fun _ _ _ h => h) (Or.inl ⟨by rfl, ?_⟩) ?_ ?_; rotate_left
                 ·intro w'; go_simp; with_reducible rfl
                 rotate_left
                 ·simp only [pS, i64_w, i32_w]; rfl
                 refine pure_ (i := 17) (N := some 79) (v := ?_) (a' := ?_) #[true, true, true, true, true, true, true, true, true, true, true, true, true, true, true, true, true, true, false, false, false, false, false, false, false, false, false, false, false, false, false] rfl rfl (any_of HT_.out (by kernel_rfl)) (fun _ _ _ h => h) (Or.inl ⟨by rfl, ?_⟩) ?_ ?_; rotate_left
                 ·intro w'; go_simp; with_reducible rfl
                 rotate_left
                 ·simp only [pS, i64_w, i32_w]; rfl
                 refine pure_ (i := 18) (N := some 80) (v := ?_) (a' := ?_) #[true, true, true, true, true, true, true, true, true, true, true, true, true, true, true, true, true, true, true, false, false, false, false, false, false, false, false, false, false, false, false] rfl rfl (any_of HT_.out (by kernel_rfl)) (fun _ _ _ h => h) (Or.inl ⟨by rfl, ?_⟩) ?_ ?_; rotate_left
                 ·intro w'; go_simp; with_reducible rfl
                 rotate_left
                 ·simp only [pS, i64_w, i32_w]; rfl
                 refine pure_ (i := 19) (N := some 81) (v := ?_) (a' := ?_) #[true, true, true, true, true, true, true, true, true, true, true, true, true, true, true, true, true, true, true, true, false, false, false, false, false, false, false, false, false, false, false] rfl rfl (any_of HT_.out (by kernel_rfl)) (fun _ _ _ h => h) (Or.inl ⟨by rfl, ?_⟩) ?_ ?_; rotate_left
                 ·intro w'; go_simp; with_reducible rfl
                 rotate_left
                 ·simp only [pS, i64_w, i32_w]; rfl
                 refine pure_ (i := 20) (N := some 82) (v := ?_) (a' := ?_) #[true, true, true, true, true, true, true, true, true, true, true, true, true, true, true, true, true, true, true, true, true, false, false, false, false, false, false, false, false, false, false] rfl rfl (any_of HT_.out (by kernel_rfl)) (fun _ _ _ h => h) (Or.inl ⟨by rfl, ?_⟩) ?_ ?_; rotate_left
                 ·intro w'; go_simp; with_reducible rfl
                 rotate_left
                 ·simp only [pS, i64_w, i32_w]; rfl
                 refine pure_ (i := 21) (N := some 83) (v := ?_) (a' := ?_) #[true, true, true, true, true, true, true, true, true, true, true, true, true, true, true, true, true, true, true, true, true, true, false, false, false, false, false, false, false, false, false] rfl rfl (any_of HT_.out (by kernel_rfl)) (fun _ _ _ h => h) (Or.inl ⟨by rfl, ?_⟩) ?_ ?_; rotate_left
                 ·intro w'; go_simp; with_reducible rfl
                 rotate_left
                 ·simp only [pS, i64_w, i32_w]; rfl
                 refine pure_ (i := 22) (N := some 84) (v := ?_) (a' := ?_) #[true, true, true, true, true, true, true, true, true, true, true, true, true, true, true, true, true, true, true, true, true, true, true, false, false, false, false, false, false, false, false] rfl rfl (any_of HT_.out (by kernel_rfl)) (fun _ _ _ h => h) (Or.inl ⟨by rfl, ?_⟩) ?_ ?_; rotate_left
                 ·intro w'; go_simp; with_reducible rfl
                 rotate_left
                 ·simp only [pS, i64_w, i32_w]; rfl
                 refine pure_ (i := 23) (N := some 85) (v := undef) (a' := ?_) #[true, true, true, true, true, true, true, true, true, true, true, true, true, true, true, true, true, true, true, true, true, true, true, true, false, false, false, false, false, false, false] rfl rfl (any_of HT_.out (by kernel_rfl)) (fun _ _ _ h => h) (Or.inr ⟨by rfl, rfl⟩) ?_ ?_; rotate_left
                 ·simp only [pS, i64_w, i32_w]; rfl
                 refine pure_ (i := 24) (N := some 86) (v := undef) (a' := ?_) #[true, true, true, true, true, true, true, true, true, true, true, true, true, true, true, true, true, true, true, true, true, true, true, true, true, false, false, false, false, false, false] rfl rfl (any_of HT_.out (by kernel_rfl)) (fun _ _ _ h => h) (Or.inr ⟨by rfl, rfl⟩) ?_ ?_; rotate_left
                 ·simp only [pS, i64_w, i32_w]; rfl
                 refine pure_ (i := 25) (N := some 87) (v := undef) (a' := ?_) #[true, true, true, true, true, true, true, true, true, true, true, true, true, true, true, true, true, true, true, true, true, true, true, true, true, true, false, false, false, false, false] rfl rfl (any_of HT_.out (by kernel_rfl)) (fun _ _ _ h => h) (Or.inr ⟨by rfl, rfl⟩) ?_ ?_; rotate_left
                 ·simp only [pS, i64_w, i32_w]; rfl
                 refine pure_ (i := 26) (N := some 88) (v := undef) (a' := ?_) #[true, true, true, true, true, true, true, true, true, true, true, true, true, true, true, true, true, true, true, true, true, true, true, true, true, true, true, false, false, false, false] rfl rfl (any_of HT_.out (by kernel_rfl)) (fun _ _ _ h => h) (Or.inr ⟨by rfl, rfl⟩) ?_ ?_; rotate_left
                 ·simp only [pS, i64_w, i32_w]; rfl
                 refine pure_ (i := 27) (N := some 89) (v := undef) (a' := ?_) #[true, true, true, true, true, true, true, true, true, true, true, true, true, true, true, true, true, true, true, true, true, true, true, true, true, true, true, true, false, false, false] rfl rfl (any_of HT_.out (by kernel_rfl)) (fun _ _ _ h => h) (Or.inr ⟨by rfl, rfl⟩) ?_ ?_; rotate_left
                 ·simp only [pS, i64_w, i32_w]; rfl
                 refine pure_ (i := 28) (N := some 90) (v := undef) (a' := ?_) #[true, true, true, true, true, true, true, true, true, true, true, true, true, true, true, true, true, true, true, true, true, true, true, true, true, true, true, true, true, false, false] rfl rfl (any_of HT_.out (by kernel_rfl)) (fun _ _ _ h => h) (Or.inr ⟨by rfl, rfl⟩) ?_ ?_; rotate_left
                 ·simp only [pS, i64_w, i32_w]; rfl
                 refine pure_ (i := 29) (N := some 91) (v := ?_) (a' := ?_) #[true, true, true, true, true, true, true, true, true, true, true, true, true, true, true, true, true, true, true, true, true, true, true, true, true, true, true, true, true, true, false] rfl rfl (any_of HT_.out (by kernel_rfl)) (fun _ _ _ h => h) (Or.inl ⟨by rfl, ?_⟩) ?_ ?_; rotate_left
                 ·intro w'; go_simp; with_reducible rfl
                 rotate_left
                 ·simp only [pS, i64_w, i32_w]; rfl
                 refine pure_ (i := 30) (N := some 92) (v := ?_) (a' := ?_) #[true, true, true, true, true, true, true, true, true, true, true, true, true, true, true, true, true, true, true, true, true, true, true, true, true, true, true, true, true, true, true] rfl rfl (any_of HT_.out (by kernel_rfl)) (fun _ _ _ h => h) (Or.inl ⟨by rfl, ?_⟩) ?_ ?_; rotate_left
                 ·intro w'; go_simp; with_reducible rfl
                 rotate_left
                 ·simp only [pS, i64_w, i32_w]; rfl
                 refine done_ (done_of HT_.out (by kernel_rfl)) ?_; try go_wp2
                 go_meet
                 case rel => exact ⟨_, (false), (by first | rfl | (simp; done) | (simp [*]; done)), H', ⟨by have := HJ5.out; have := HJ24.out; have := HK3.out; first | omega | exact Nat.le_refl _⟩, ⟨by (with_reducible repeat (first | apply Kd.RA | apply Kd.RN | apply Kd.RD)); exact HO_3.out⟩, ⟨by (with_reducible repeat (first | apply Kd.RA | apply Kd.RN | apply Kd.RD)); exact HO_5.out⟩, ⟨by (with_reducible repeat (first | refine bkN ?_ _ | refine bkD ?_ | refine bkA ?_ _)); exact BK433.out⟩, ⟨by repeat (first | (with_reducible first | exact HB.out | apply bwA | apply pwN | apply bw1 | refine bwS ?_ GE433.out) | exact HB.out)⟩⟩
               ·rw [if_neg c45] at H
                have c45b0 : (((rd_T57 t434 x8_3).f0.f0) == t429 && (((rd_T57 t434 x8_3).f0.f1) == t430 && (((rd_T57 t434 x8_3).f0.f2) == t431 && (((rd_T57 t434 x8_3).f0.f3) == t432)))) = false := by simpa using c45
                (try (have c45b1 : decide (((rd_T57 t434 x8_3).f0.f0) = t429 && (((rd_T57 t434 x8_3).f0.f1) == t430 && (((rd_T57 t434 x8_3).f0.f2) == t431 && (((rd_T57 t434 x8_3).f0.f3) == t432)))) = false := by simpa using c45))
                (try (have c45b2 : (((rd_T57 t434 x8_3).f0.f0) == t429 && (((rd_T57 t434 x8_3).f0.f1) == t430 && (((rd_T57 t434 x8_3).f0.f2) == t431 && (((rd_T57 t434 x8_3).f0.f3) == t432)))) = false := by simpa using c45))
                (try (have c45b3 : ¬ (((rd_T57 t434 x8_3).f0.f0) = t429 && (((rd_T57 t434 x8_3).f0.f1) == t430 && (((rd_T57 t434 x8_3).f0.f2) == t431 && (((rd_T57 t434 x8_3).f0.f3) == t432)))) := by simpa using c45))
                clear c45; try have c45q : (((rd_T57 t434 x8_3).f0.f1) == t430 && (((rd_T57 t434 x8_3).f0.f2) == t431 && (((rd_T57 t434 x8_3).f0.f3) == t432))) = false := by { rw [show (((rd_T57 t434 x8_3).f0.f0) == t429) = true from by assumption, Bool.true_and] at c45b0; exact c45b0 }
                (first | rw [c45b0] | (simp only [i64_w, i32_w]; rw [c45b0]) | skip)
                have H' := Zz.mk H; clear H; try go_wp2
                have n0_ := Zz.mk (Kd.RD HO_3.out); have n1_ := Zz.mk (Kd.RD HO_5.out); have n2_ := Zz.mk (bkD BK433.out); have n3_ := Zz.mk (bw1 HB.out); clear HO_3; clear HO_5; clear BK433; clear HB; have HO_3 := n0_; have HO_5 := n1_; have BK433 := n2_; have HB := n3_; clear n0_ n1_ n2_ n3_; have p446 : 0 ≤ (x8_3 : Int) := of_decide_eq_true (by first | (with_reducible assumption) | assumption); have q446 : x8_3 < (t434.length : Int) := of_decide_eq_true (by first | (with_reducible assumption) | assumption); obtain ⟨ad446, e446, hx446_0, hx446_1, hx446_2, hx446_3, hx446_4⟩ := at_T57 (Kd.R_reads' HO_5.out).2.2 x8_3 p446 q446; obtain rfl : ad445 = ad446 := (by injection e446)
                replace p446 := eq_true p446; replace q446 := eq_true q446; have p448 : 0 ≤ (x8_3 : Int) := of_decide_eq_true (by first | (with_reducible assumption) | assumption); have q448 : x8_3 < (t434.length : Int) := of_decide_eq_true (by first | (with_reducible assumption) | assumption); obtain ⟨ad448, e448, hx448_0, hx448_1, hx448_2, hx448_3, hx448_4⟩ := at_T57 (Kd.R_reads' HO_5.out).2.2 x8_3 p448 q448; obtain rfl : ad445 = ad448 := (by injection e448)
                replace p448 := eq_true p448; replace q448 := eq_true q448; refine start_ (n := 31) (S := fun w' => w'.cell? ⟨gb433, 0, none⟩ = some (.int .i64 t429) ∧ w'.cell? ⟨gb433, 1, none⟩ = some (.int .i64 t430) ∧ w'.cell? ⟨gb433, 2, none⟩ = some (.int .i64 t431) ∧ w'.cell? ⟨gb433, 3, none⟩ = some (.bool t432) ∧ w'.cell? (ad445.add ((x8_3).toNat * 5)) = some (.int .i64 ((rd_T57 t434 x8_3).f0.f0)) ∧ w'.cell? ⟨(ad445.add ((x8_3).toNat * 5)).block, (ad445.add ((x8_3).toNat * 5)).off + 1, none⟩ = some (.int .i64 ((rd_T57 t434 x8_3).f0.f1)) ∧ w'.cell? ⟨(ad445.add ((x8_3).toNat * 5)).block, (ad445.add ((x8_3).toNat * 5)).off + 2, none⟩ = some (.int .i64 ((rd_T57 t434 x8_3).f0.f2)) ∧ w'.cell? ⟨(ad445.add ((x8_3).toNat * 5)).block, (ad445.add ((x8_3).toNat * 5)).off + 3, none⟩ = some (.bool ((rd_T57 t434 x8_3).f0.f3)) ∧ w'.cell? ⟨(ad445.add ((x8_3).toNat * 5)).block, (ad445.add ((x8_3).toNat * 5)).off + 4, none⟩ = some (.int .i64 ((rd_T57 t434 x8_3).f1)) ∧ w'.cell? (ad445.add ((x8_3).toNat * 5)) = some (.int .i64 ((rd_T57 t434 x8_3).f0.f0)) ∧ w'.cell? ⟨(ad445.add ((x8_3).toNat * 5)).block, (ad445.add ((x8_3).toNat * 5)).off + 1, none⟩ = some (.int .i64 ((rd_T57 t434 x8_3).f0.f1)) ∧ w'.cell? ⟨(ad445.add ((x8_3).toNat * 5)).block, (ad445.add ((x8_3).toNat * 5)).off + 2, none⟩ = some (.int .i64 ((rd_T57 t434 x8_3).f0.f2)) ∧ w'.cell? ⟨(ad445.add ((x8_3).toNat * 5)).block, (ad445.add ((x8_3).toNat * 5)).off + 3, none⟩ = some (.bool ((rd_T57 t434 x8_3).f0.f3)) ∧ w'.cell? ⟨(ad445.add ((x8_3).toNat * 5)).block, (ad445.add ((x8_3).toNat * 5)).off + 4, none⟩ = some (.int .i64 ((rd_T57 t434 x8_3).f1))) (ds := []) #[false, false, false, false, false, false, false, false, false, false, false, false, false, false, false, false, false, false, false, false, false, false, false, false, false, false, false, false, false, false, false] (by kernel_rfl) rfl rfl ⟨(bkC BK433.out 0).trans rfl, (bkC BK433.out 1).trans rfl, (bkC BK433.out 2).trans rfl, (bkC BK433.out 3).trans rfl, hx446_0, hx446_1, hx446_2, hx446_3, hx446_4, hx448_0, hx448_1, hx448_2, hx448_3, hx448_4⟩ (fun hH => ?_); refine with_tabW laws_FnCastNew.tab16 laws_FnCastNew.bits16 (fun HT_ HW_ => ?_); generalize w40.drew = w51 at HO_3 HO_5 BK433 HB hx446_0 hx446_1 hx446_2 hx446_3 hx446_4 hx448_0 hx448_1 hx448_2 hx448_3 hx448_4 hH ⊢; refine pure_ (i := 1) (N := some 63) (v := ?_) (a' := ?_) #[false, true, false, false, false, false, false, false, false, false, false, false, false, false, false, false, false, false, false, false, false, false, false, false, false, false, false, false, false, false, false] rfl rfl (any_of HT_.out (by kernel_rfl)) (fun _ _ _ h => h) (Or.inl ⟨by rfl, ?_⟩) ?_ ?_; rotate_left
                ·intro w'; go_simp; with_reducible rfl
                rotate_left
                ·simp only [pS, i64_w, i32_w]; rfl
                refine pure_ (i := 2) (N := some 64) (v := ?_) (a' := ?_) #[false, true, true, false, false, false, false, false, false, false, false, false, false, false, false, false, false, false, false, false, false, false, false, false, false, false, false, false, false, false, false] rfl rfl (any_of HT_.out (by kernel_rfl)) (fun _ _ _ h => h) (Or.inl ⟨by rfl, ?_⟩) ?_ ?_; rotate_left
                ·intro w'; go_simp; with_reducible rfl
                rotate_left
                ·simp only [pS, i64_w, i32_w]; rfl
                refine pure_ (i := 3) (N := some 65) (v := ?_) (a' := ?_) #[false, true, true, true, false, false, false, false, false, false, false, false, false, false, false, false, false, false, false, false, false, false, false, false, false, false, false, false, false, false, false] rfl rfl (any_of HT_.out (by kernel_rfl)) (fun _ _ _ h => h) (Or.inl ⟨by rfl, ?_⟩) ?_ ?_; rotate_left
                ·intro w'; go_simp; with_reducible rfl
                rotate_left
                ·simp only [pS, i64_w, i32_w]; rfl
                refine pure_ (i := 4) (N := some 66) (v := ?_) (a' := ?_) #[false, true, true, true, true, false, false, false, false, false, false, false, false, false, false, false, false, false, false, false, false, false, false, false, false, false, false, false, false, false, false] rfl rfl (any_of HT_.out (by kernel_rfl)) (fun _ _ _ h => h) (Or.inl ⟨by rfl, ?_⟩) ?_ ?_; rotate_left
                ·intro w'; go_simp; with_reducible rfl
                rotate_left
                ·simp only [pS, i64_w, i32_w]; rfl
                refine take_ (i := 0) (N := some 62) (v := ?_) (a' := ?_) #[true, true, true, true, true, false, false, false, false, false, false, false, false, false, false, false, false, false, false, false, false, false, false, false, false, false, false, false, false, false, false] rfl rfl (take_ofW HT_.out HW_.out (by kernel_rfl)) (fun _ _ _ h => h) (Or.inl ⟨by rfl, ?_⟩) hH ?_ ?_; rotate_left
                ·rintro w' ⟨s0, s1, s2, s3, s4, s5, s6, s7, s8, s9, s10, s11, s12, s13⟩; go_simp; with_reducible rfl
                rotate_left
                ·simp only [pS, i64_w, i32_w]; rfl
                refine take_ (i := 5) (N := some 67) (v := ?_) (a' := ?_) #[true, true, true, true, true, true, false, false, false, false, false, false, false, false, false, false, false, false, false, false, false, false, false, false, false, false, false, false, false, false, false] rfl rfl (take_ofW HT_.out HW_.out (by kernel_rfl)) (fun _ _ _ h => h) (Or.inl ⟨by rfl, ?_⟩) hH ?_ ?_; rotate_left
                ·rintro w' ⟨s0, s1, s2, s3, s4, s5, s6, s7, s8, s9, s10, s11, s12, s13⟩; go_simp; with_reducible rfl
                rotate_left
                ·simp only [pS, i64_w, i32_w]; rfl
                refine one_ (i := 6) (N := some 68) #[true, true, true, true, true, true, true, false, false, false, false, false, false, false, false, false, false, false, false, false, false, false, false, false, false, false, false, false, false, false, false] rfl rfl (one_of HT_.out (by kernel_rfl)) (by decide) (fun K hK => ?_); refine goes_ Try.func37 (by kernel_rfl) rfl #[.agg #[.int .i64 t429, .int .i64 t430, .int .i64 t431, .bool t432], .agg #[.int .i64 ((rd_T57 t434 x8_3).f0.f0), .int .i64 ((rd_T57 t434 x8_3).f0.f1), .int .i64 ((rd_T57 t434 x8_3).f0.f2), .bool ((rd_T57 t434 x8_3).f0.f3)]] (by rfl) rfl rfl (by (try simp only [List.map_toArray, List.map_cons, List.map_nil]); first | done | rfl | (simp only [List.length_drop, List.length_take]; rfl)) ?_; with_reducible refine (impl_FactOver.calls k3 t429 t430 t431 t432 ((rd_T57 t434 x8_3).f0.f0) ((rd_T57 t434 x8_3).f0.f1) ((rd_T57 t434 x8_3).f0.f2) ((rd_T57 t434 x8_3).f0.f3) false _ A41.out).mono ?_
                rintro e w52 ⟨rfl, hb⟩; have HS4_ := (hb.cell (World.block_lt_of_cell? _ _ (hH.2.2.2.2.1))).trans (hH.2.2.2.2.1); have HS5_ := (hb.cell (World.block_lt_of_cell? _ _ (hH.2.2.2.2.2.1))).trans (hH.2.2.2.2.2.1); have HS6_ := (hb.cell (World.block_lt_of_cell? _ _ (hH.2.2.2.2.2.2.1))).trans (hH.2.2.2.2.2.2.1); have HS7_ := (hb.cell (World.block_lt_of_cell? _ _ (hH.2.2.2.2.2.2.2.1))).trans (hH.2.2.2.2.2.2.2.1); have HS8_ := (hb.cell (World.block_lt_of_cell? _ _ (hH.2.2.2.2.2.2.2.2.1))).trans (hH.2.2.2.2.2.2.2.2.1); have HS9_ := (hb.cell (World.block_lt_of_cell? _ _ (hH.2.2.2.2.2.2.2.2.2.1))).trans (hH.2.2.2.2.2.2.2.2.2.1); have HS10_ := (hb.cell (World.block_lt_of_cell? _ _ (hH.2.2.2.2.2.2.2.2.2.2.1))).trans (hH.2.2.2.2.2.2.2.2.2.2.1); have HS11_ := (hb.cell (World.block_lt_of_cell? _ _ (hH.2.2.2.2.2.2.2.2.2.2.2.1))).trans (hH.2.2.2.2.2.2.2.2.2.2.2.1); have HS12_ := (hb.cell (World.block_lt_of_cell? _ _ (hH.2.2.2.2.2.2.2.2.2.2.2.2.1))).trans (hH.2.2.2.2.2.2.2.2.2.2.2.2.1); have HS13_ := (hb.cell (World.block_lt_of_cell? _ _ (hH.2.2.2.2.2.2.2.2.2.2.2.2.2))).trans (hH.2.2.2.2.2.2.2.2.2.2.2.2.2); refine ⟨_, rfl, ?_⟩; have n0_ := Zz.mk (Kd.R_below (by (with_reducible repeat (first | apply Kd.RA | apply Kd.RN | apply Kd.RD)); exact HO_3.out) hb); have n1_ := Zz.mk (Kd.R_below (by (with_reducible repeat (first | apply Kd.RA | apply Kd.RN | apply Kd.RD)); exact HO_5.out) hb); have n2_ := Zz.mk (bkB (g := gb433) (o := .cells #[.int .i64 t429, .int .i64 t430, .int .i64 t431, .bool t432] 30 (0, 0)) (by (with_reducible repeat (first | refine bkN ?_ _ | refine bkD ?_ | refine bkA ?_ _)); exact BK433.out) hb); have n3_ := Zz.mk (bwP (by repeat (first | (with_reducible first | exact HB.out | apply bwA | apply pwN | apply bw1 | refine bwS ?_ GE433.out) | exact HB.out)) hb); clear HO_3; clear HO_5; clear BK433; clear HB; have HO_3 := n0_; have HO_5 := n1_; have BK433 := n2_; have HB := n3_; clear n0_ n1_ n2_ n3_; (try clear hb)
                (try clear A41)
                refine hK.out _ _ ⟨(bkC BK433.out 0).trans rfl, (bkC BK433.out 1).trans rfl, (bkC BK433.out 2).trans rfl, (bkC BK433.out 3).trans rfl, HS4_, HS5_, HS6_, HS7_, HS8_, HS9_, HS10_, HS11_, HS12_, HS13_⟩ (fun hH => ?_); clear hK K; refine norm_ (a' := ?_) ?_ ?_; rotate_left
                ·show Act.put _ (some 68) _ = _
                 simp only [pS, i64_w, i32_w]; rfl
                refine pure_ (i := 7) (N := some 69) (v := ?_) (a' := ?_) #[true, true, true, true, true, true, true, true, false, false, false, false, false, false, false, false, false, false, false, false, false, false, false, false, false, false, false, false, false, false, false] rfl rfl (any_of HT_.out (by kernel_rfl)) (fun _ _ _ h => h) (Or.inl ⟨by rfl, ?_⟩) ?_ ?_; rotate_left
                ·intro w'; go_simp; with_reducible rfl
                rotate_left
                ·simp only [pS, i64_w, i32_w]; rfl
                refine pure_ (i := 8) (N := some 70) (v := ?_) (a' := ?_) #[true, true, true, true, true, true, true, true, true, false, false, false, false, false, false, false, false, false, false, false, false, false, false, false, false, false, false, false, false, false, false] rfl rfl (any_of HT_.out (by kernel_rfl)) (fun _ _ _ h => h) (Or.inl ⟨by rfl, ?_⟩) ?_ ?_; rotate_left
                ·intro w'; go_simp; with_reducible rfl
                rotate_left
                ·simp only [pS, i64_w, i32_w]; rfl
                refine pure_ (i := 9) (N := some 71) (v := ?_) (a' := ?_) #[true, true, true, true, true, true, true, true, true, true, false, false, false, false, false, false, false, false, false, false, false, false, false, false, false, false, false, false, false, false, false] rfl rfl (any_of HT_.out (by kernel_rfl)) (fun _ _ _ h => h) (Or.inl ⟨by rfl, ?_⟩) ?_ ?_; rotate_left
                ·intro w'; go_simp; with_reducible rfl
                rotate_left
                ·simp only [pS, i64_w, i32_w]; rfl
                refine pure_ (i := 10) (N := some 72) (v := ?_) (a' := ?_) #[true, true, true, true, true, true, true, true, true, true, true, false, false, false, false, false, false, false, false, false, false, false, false, false, false, false, false, false, false, false, false] rfl rfl (any_of HT_.out (by kernel_rfl)) (fun _ _ _ h => h) (Or.inl ⟨by rfl, ?_⟩) ?_ ?_; rotate_left
                ·intro w'; go_simp; with_reducible rfl
                rotate_left
                ·simp only [pS, i64_w, i32_w]; rfl
                refine pure_ (i := 11) (N := some 73) (v := ?_) (a' := ?_) #[true, true, true, true, true, true, true, true, true, true, true, true, false, false, false, false, false, false, false, false, false, false, false, false, false, false, false, false, false, false, false] rfl rfl (any_of HT_.out (by kernel_rfl)) (fun _ _ _ h => h) (Or.inl ⟨by rfl, ?_⟩) ?_ ?_; rotate_left
                ·intro w'; go_simp; with_reducible rfl
                rotate_left
                ·simp only [pS, i64_w, i32_w]; rfl
                refine take_ (i := 12) (N := some 74) (v := ?_) (a' := ?_) #[true, true, true, true, true, true, true, true, true, true, true, true, true, false, false, false, false, false, false, false, false, false, false, false, false, false, false, false, false, false, false] rfl rfl (take_ofW HT_.out HW_.out (by kernel_rfl)) (fun _ _ _ h => h) (Or.inl ⟨by rfl, ?_⟩) hH ?_ ?_; rotate_left
                ·rintro w' ⟨s0, s1, s2, s3, s4, s5, s6, s7, s8, s9, s10, s11, s12, s13⟩; go_simp; with_reducible rfl
                rotate_left
                ·simp only [pS, i64_w, i32_w]; rfl
                refine take_ (i := 13) (N := some 75) (v := ?_) (a' := ?_) #[true, true, true, true, true, true, true, true, true, true, true, true, true, true, false, false, false, false, false, false, false, false, false, false, false, false, false, false, false, false, false] rfl rfl (take_ofW HT_.out HW_.out (by kernel_rfl)) (fun _ _ _ h => h) (Or.inl ⟨by rfl, ?_⟩) hH ?_ ?_; rotate_left
                ·rintro w' ⟨s0, s1, s2, s3, s4, s5, s6, s7, s8, s9, s10, s11, s12, s13⟩; go_simp; with_reducible rfl
                rotate_left
                ·simp only [pS, i64_w, i32_w]; rfl
                refine pure_ (i := 14) (N := some 76) (v := ?_) (a' := ?_) #[true, true, true, true, true, true, true, true, true, true, true, true, true, true, true, false, false, false, false, false, false, false, false, false, false, false, false, false, false, false, false] rfl rfl (any_of HT_.out (by kernel_rfl)) (fun _ _ _ h => h) (Or.inl ⟨by rfl, ?_⟩) ?_ ?_; rotate_left
                ·intro w'; go_simp; with_reducible rfl
                rotate_left
                ·simp only [pS, i64_w, i32_w]; rfl
                refine pure_ (i := 15) (N := some 77) (v := ?_) (a' := ?_) #[true, true, true, true, true, true, true, true, true, true, true, true, true, true, true, true, false, false, false, false, false, false, false, false, false, false, false, false, false, false, false] rfl rfl (any_of HT_.out (by kernel_rfl)) (fun _ _ _ h => h) (Or.inl ⟨by rfl, ?_⟩) ?_ ?_; rotate_left
                ·intro w'; go_simp; with_reducible rfl
                rotate_left
                ·simp only [pS, i64_w, i32_w]; rfl
                refine pure_ (i := 16) (N := some 78) (v := undef) (a' := ?_) #[true, true, true, true, true, true, true, true, true, true, true, true, true, true, true, true, true, false, false, false, false, false, false, false, false, false, false, false, false, false, false] rfl rfl (any_of HT_.out (by kernel_rfl)) (fun _ _ _ h => h) (Or.inr ⟨by rfl, rfl⟩) ?_ ?_; rotate_left
                ·simp only [pS, i64_w, i32_w]; rfl
                refine pure_ (i := 17) (N := some 79) (v := undef) (a' := ?_) #[true, true, true, true, true, true, true, true, true, true, true, true, true, true, true, true, true, true, false, false, false, false, false, false, false, false, false, false, false, false, false] rfl rfl (any_of HT_.out (by kernel_rfl)) (fun _ _ _ h => h) (Or.inr ⟨by rfl, rfl⟩) ?_ ?_; rotate_left
                ·simp only [pS, i64_w, i32_w]; rfl
                refine pure_ (i := 18) (N := some 80) (v := undef) (a' := ?_) #[true, true, true, true, true, true, true, true, true, true, true, true, true, true, true, true, true, true, true, false, false, false, false, false, false, false, false, false, false, false, false] rfl rfl (any_of HT_.out (by kernel_rfl)) (fun _ _ _ h => h) (Or.inr ⟨by rfl, rfl⟩) ?_ ?_; rotate_left
                ·simp only [pS, i64_w, i32_w]; rfl
                refine pure_ (i := 19) (N := some 81) (v := undef) (a' := ?_) #[true, true, true, true, true, true, true, true, true, true, true, true, true, true, true, true, true, true, true, true, false, false, false, false, false, false, false, false, false, false, false] rfl rfl (any_of HT_.out (by kernel_rfl)) (fun _ _ _ h => h) (Or.inr ⟨by rfl, rfl⟩) ?_ ?_; rotate_left
                ·simp only [pS, i64_w, i32_w]; rfl
                refine pure_ (i := 20) (N := some 82) (v := undef) (a' := ?_) #[true, true, true, true, true, true, true, true, true, true, true, true, true, true, true, true, true, true, true, true, true, false, false, false, false, false, false, false, false, false, false] rfl rfl (any_of HT_.out (by kernel_rfl)) (fun _ _ _ h => h) (Or.inr ⟨by rfl, rfl⟩) ?_ ?_; rotate_left
                ·simp only [pS, i64_w, i32_w]; rfl
                refine pure_ (i := 21) (N := some 83) (v := ?_) (a' := ?_) #[true, true, true, true, true, true, true, true, true, true, true, true, true, true, true, true, true, true, true, true, true, true, false, false, false, false, false, false, false, false, false] rfl rfl (any_of HT_.out (by kernel_rfl)) (fun _ _ _ h => h) (Or.inl ⟨by rfl, ?_⟩) ?_ ?_; rotate_left
                ·intro w'; go_simp; with_reducible rfl
                rotate_left
                ·simp only [pS, i64_w, i32_w]; rfl
                refine pure_ (i := 22) (N := some 84) (v := ?_) (a' := ?_) #[true, true, true, true, true, true, true, true, true, true, true, true, true, true, true, true, true, true, true, true, true, true, true, false, false, false, false, false, false, false, false] rfl rfl (any_of HT_.out (by kernel_rfl)) (fun _ _ _ h => h) (Or.inl ⟨by rfl, ?_⟩) ?_ ?_; rotate_left
                ·intro w'; go_simp; with_reducible rfl
                rotate_left
                ·simp only [pS, i64_w, i32_w]; rfl
                refine pure_ (i := 23) (N := some 85) (v := undef) (a' := ?_) #[true, true, true, true, true, true, true, true, true, true, true, true, true, true, true, true, true, true, true, true, true, true, true, true, false, false, false, false, false, false, false] rfl rfl (any_of HT_.out (by kernel_rfl)) (fun _ _ _ h => h) (Or.inr ⟨by rfl, rfl⟩) ?_ ?_; rotate_left
                ·simp only [pS, i64_w, i32_w]; rfl
                refine pure_ (i := 24) (N := some 86) (v := undef) (a' := ?_) #[true, true, true, true, true, true, true, true, true, true, true, true, true, true, true, true, true, true, true, true, true, true, true, true, true, false, false, false, false, false, false] rfl rfl (any_of HT_.out (by kernel_rfl)) (fun _ _ _ h => h) (Or.inr ⟨by rfl, rfl⟩) ?_ ?_; rotate_left
                ·simp only [pS, i64_w, i32_w]; rfl
                refine pure_ (i := 25) (N := some 87) (v := undef) (a' := ?_) #[true, true, true, true, true, true, true, true, true, true, true, true, true, true, true, true, true, true, true, true, true, true, true, true, true, true, false, false, false, false, false] rfl rfl (any_of HT_.out (by kernel_rfl)) (fun _ _ _ h => h) (Or.inr ⟨by rfl, rfl⟩) ?_ ?_; rotate_left
                ·simp only [pS, i64_w, i32_w]; rfl
                refine pure_ (i := 26) (N := some 88) (v := undef) (a' := ?_) #[true, true, true, true, true, true, true, true, true, true, true, true, true, true, true, true, true, true, true, true, true, true, true, true, true, true, true, false, false, false, false] rfl rfl (any_of HT_.out (by kernel_rfl)) (fun _ _ _ h => h) (Or.inr ⟨by rfl, rfl⟩) ?_ ?_; rotate_left
                ·simp only [pS, i64_w, i32_w]; rfl
                refine pure_ (i := 27) (N := some 89) (v := undef) (a' := ?_) #[true, true, true, true, true, true, true, true, true, true, true, true, true, true, true, true, true, true, true, true, true, true, true, true, true, true, true, true, false, false, false] rfl rfl (any_of HT_.out (by kernel_rfl)) (fun _ _ _ h => h) (Or.inr ⟨by rfl, rfl⟩) ?_ ?_; rotate_left
                ·simp only [pS, i64_w, i32_w]; rfl
                refine pure_ (i := 28) (N := some 90) (v := undef) (a' := ?_) #[true, true, true, true, true, true, true, true, true, true, true, true, true, true, true, true, true, true, true, true, true, true, true, true, true, true, true, true, true, false, false] rfl rfl (any_of HT_.out (by kernel_rfl)) (fun _ _ _ h => h) (Or.inr ⟨by rfl, rfl⟩) ?_ ?_; rotate_left
                ·simp only [pS, i64_w, i32_w]; rfl
                refine pure_ (i := 29) (N := some 91) (v := ?_) (a' := ?_) #[true, true, true, true, true, true, true, true, true, true, true, true, true, true, true, true, true, true, true, true, true, true, true, true, true, true, true, true, true, true, false] rfl rfl (any_of HT_.out (by kernel_rfl)) (fun _ _ _ h => h) (Or.inl ⟨by rfl, ?_⟩) ?_ ?_; rotate_left
                ·intro w'; go_simp; with_reducible rfl
                rotate_left
                ·simp only [pS, i64_w, i32_w]; rfl
                refine pure_ (i := 30) (N := some 92) (v := ?_) (a' := ?_) #[true, true, true, true, true, true, true, true, true, true, true, true, true, true, true, true, true, true, true, true, true, true, true, true, true, true, true, true, true, true, true] rfl rfl (any_of HT_.out (by kernel_rfl)) (fun _ _ _ h => h) (Or.inl ⟨by rfl, ?_⟩) ?_ ?_; rotate_left
                ·intro w'; go_simp; with_reducible rfl
                rotate_left
                ·simp only [pS, i64_w, i32_w]; rfl
                refine done_ (done_of HT_.out (by kernel_rfl)) ?_; try go_wp2
                go_meet
                case rel => exact ⟨_, (false), (by first | rfl | (simp; done) | (simp [*]; done)), H', ⟨by have := HJ5.out; have := HJ24.out; have := HK3.out; first | omega | exact Nat.le_refl _⟩, ⟨by (with_reducible repeat (first | apply Kd.RA | apply Kd.RN | apply Kd.RD)); exact HO_3.out⟩, ⟨by (with_reducible repeat (first | apply Kd.RA | apply Kd.RN | apply Kd.RD)); exact HO_5.out⟩, ⟨by (with_reducible repeat (first | refine bkN ?_ _ | refine bkD ?_ | refine bkA ?_ _)); exact BK433.out⟩, ⟨by repeat (first | (with_reducible first | exact HB.out | apply bwA | apply pwN | apply bw1 | refine bwS ?_ GE433.out) | exact HB.out)⟩⟩
             case rest =>
              clear HC38; try clear p2
              try clear c3
              try clear c4
              try clear p4
              try clear q4
              try clear hx4
              try clear c37
              try clear p44
              try clear q44
              try clear hx44
              try clear c45
              try clear c45b0
              try clear c45b1
              try clear c45b2
              try clear c46
              try clear c46b0
              try clear c46b1
              try clear hx446_0
              try clear hx446_1
              try clear hx446_2
              try clear hx446_3
              try clear hx446_4
              try clear hx448_0
              try clear hx448_1
              try clear hx448_2
              try clear hx448_3
              try clear hx448_4
              try clear p446
              try clear p448
              try clear q446
              try clear q448
              obtain ⟨kq, x92_37, rfl, HA, HJ37, HO_3, HO_5, BK433, HB⟩ := hcut; cases kq with
              | zero => exact absurd HA.out (by simp [laws_FnCastNew.j3])
              | succ kj37 =>
               have H := HA.out; clear HA; simp only [laws_FnCastNew.j3] at H; by_cases c53 : x92_37 = true
               ·subst c53
                have H1 : (some false) = some r := by rw [if_pos rfl] at H; exact H
                clear H; have H := H1; clear H1; obtain rfl := Option.some.inj H; go_wp2
                go_ret
                exact ⟨by first | rfl | (simp [eN, eS] <;> rfl) | (simp [*, eN, eS] <;> rfl), by repeat (first | (with_reducible first | exact HB.out | apply bwA | apply pwN | apply bw1 | refine bwS ?_ GE433.out) | exact HB.out)⟩
               ·replace c53 := Bool.eq_false_iff.mpr c53
                subst c53; have H1 : (laws_FnCastNew.l0 kj37 t426 t434 (wrap64 (x7_3 + 1)) (wrap64 (x8_3 + 1)) t429 t430 t431 t432) = some r := by rw [if_neg (show ¬ (false = true) by decide)] at H; exact H
                clear H; have H := H1; clear H1; have H' := Zz.mk H; clear H; go_wp2
                go_roundg kj37
                case measure => have := HJ5.out; have := HJ24.out; have := HK3.out; have := HJ37.out; omega
                case rel => exact ⟨((wrap64 (x7_3 + 1))), (wrap64 (x8_3 + 1)), (by first | rfl | (simp; done) | (simp [*]; done)), (by first | rfl | (simp; done) | (simp [*]; done)), H', ⟨by have := HJ5.out; have := HJ24.out; have := HK3.out; have := HJ37.out; omega⟩, ⟨by (with_reducible repeat (first | apply Kd.RA | apply Kd.RN | apply Kd.RD)); exact HO_3.out⟩, ⟨by (with_reducible repeat (first | apply Kd.RA | apply Kd.RN | apply Kd.RD)); exact HO_5.out⟩, ⟨by (with_reducible repeat (first | refine bkN ?_ _ | refine bkD ?_ | refine bkA ?_ _)); exact BK433.out⟩, ⟨by repeat (first | (with_reducible first | exact HB.out | apply bwA | apply pwN | apply bw1 | refine bwS ?_ GE433.out) | exact HB.out)⟩⟩
            ·rw [if_neg c37] at H
             have c37b0 : (((rd_T57 t434 x8_3).f0.f0) == t429) = false := beq_eq_false_iff_ne.mpr c37; have c37b1 : (((rd_T57 t434 x8_3).f0.f0) != t429) = true := bne_iff_ne.mpr c37; have H' := Zz.mk H; clear H; obtain ⟨Ao54, co54, eo54⟩ := Kd.R_slice HO_5.out; subst eo54; try go_wp2
             have n0_ := Zz.mk (Kd.RD HO_3.out); have n1_ := Zz.mk (Kd.RD HO_5.out); have n2_ := Zz.mk (bkD BK433.out); have n3_ := Zz.mk (bw1 HB.out); clear HO_3; clear HO_5; clear BK433; clear HB; have HO_3 := n0_; have HO_5 := n1_; have BK433 := n2_; have HB := n3_; clear n0_ n1_ n2_ n3_; have p445 : 0 ≤ (x8_3 : Int) := of_decide_eq_true (by first | (with_reducible assumption) | assumption); have q445 : x8_3 < (t434.length : Int) := of_decide_eq_true (by first | (with_reducible assumption) | assumption); obtain ⟨ad445, e445, hx445_0, hx445_1, hx445_2, hx445_3, hx445_4⟩ := at_T57 (Kd.R_reads' HO_5.out).2.2 x8_3 p445 q445; cases e445
             replace p445 := eq_true p445; replace q445 := eq_true q445; refine start_ (n := 9) (S := fun w' => w'.cell? ⟨gb433, 0, none⟩ = some (.int .i64 t429) ∧ w'.cell? ⟨gb433, 1, none⟩ = some (.int .i64 t430) ∧ w'.cell? ⟨gb433, 2, none⟩ = some (.int .i64 t431) ∧ w'.cell? ⟨gb433, 3, none⟩ = some (.bool t432) ∧ w'.cell? (ad445.add ((x8_3).toNat * 5)) = some (.int .i64 ((rd_T57 t434 x8_3).f0.f0)) ∧ w'.cell? ⟨(ad445.add ((x8_3).toNat * 5)).block, (ad445.add ((x8_3).toNat * 5)).off + 1, none⟩ = some (.int .i64 ((rd_T57 t434 x8_3).f0.f1)) ∧ w'.cell? ⟨(ad445.add ((x8_3).toNat * 5)).block, (ad445.add ((x8_3).toNat * 5)).off + 2, none⟩ = some (.int .i64 ((rd_T57 t434 x8_3).f0.f2)) ∧ w'.cell? ⟨(ad445.add ((x8_3).toNat * 5)).block, (ad445.add ((x8_3).toNat * 5)).off + 3, none⟩ = some (.bool ((rd_T57 t434 x8_3).f0.f3)) ∧ w'.cell? ⟨(ad445.add ((x8_3).toNat * 5)).block, (ad445.add ((x8_3).toNat * 5)).off + 4, none⟩ = some (.int .i64 ((rd_T57 t434 x8_3).f1))) (ds := []) #[false, false, false, false, false, false, false, false, false] (by kernel_rfl) rfl rfl ⟨(bkC BK433.out 0).trans rfl, (bkC BK433.out 1).trans rfl, (bkC BK433.out 2).trans rfl, (bkC BK433.out 3).trans rfl, hx445_0, hx445_1, hx445_2, hx445_3, hx445_4⟩ (fun hH => ?_); refine with_tabW laws_FnCastNew.tab14 laws_FnCastNew.bits14 (fun HT_ HW_ => ?_); generalize wr.drew = w55 at HO_3 HO_5 BK433 HB hx445_0 hx445_1 hx445_2 hx445_3 hx445_4 hH ⊢; refine pure_ (i := 0) (N := some 51) (v := ?_) (a' := ?_) #[true, false, false, false, false, false, false, false, false] rfl rfl (any_of HT_.out (by kernel_rfl)) (fun _ _ _ h => h) (Or.inl ⟨by rfl, ?_⟩) ?_ ?_; rotate_left
             ·intro w'; go_simp; with_reducible rfl
             rotate_left
             ·simp only [pS, i64_w, i32_w]; rfl
             refine pure_ (i := 1) (N := some 52) (v := ?_) (a' := ?_) #[true, true, false, false, false, false, false, false, false] rfl rfl (any_of HT_.out (by kernel_rfl)) (fun _ _ _ h => h) (Or.inl ⟨by rfl, ?_⟩) ?_ ?_; rotate_left
             ·intro w'; go_simp; with_reducible rfl
             rotate_left
             ·simp only [pS, i64_w, i32_w]; rfl
             refine pure_ (i := 2) (N := some 53) (v := ?_) (a' := ?_) #[true, true, true, false, false, false, false, false, false] rfl rfl (any_of HT_.out (by kernel_rfl)) (fun _ _ _ h => h) (Or.inl ⟨by rfl, ?_⟩) ?_ ?_; rotate_left
             ·intro w'; go_simp; with_reducible rfl
             rotate_left
             ·simp only [pS, i64_w, i32_w]; rfl
             refine pure_ (i := 3) (N := some 54) (v := ?_) (a' := ?_) #[true, true, true, true, false, false, false, false, false] rfl rfl (any_of HT_.out (by kernel_rfl)) (fun _ _ _ h => h) (Or.inl ⟨by rfl, ?_⟩) ?_ ?_; rotate_left
             ·intro w'; go_simp; with_reducible rfl
             rotate_left
             ·simp only [pS, i64_w, i32_w]; rfl
             refine pure_ (i := 4) (N := some 55) (v := ?_) (a' := ?_) #[true, true, true, true, true, false, false, false, false] rfl rfl (any_of HT_.out (by kernel_rfl)) (fun _ _ _ h => h) (Or.inl ⟨by rfl, ?_⟩) ?_ ?_; rotate_left
             ·intro w'; go_simp; with_reducible rfl
             rotate_left
             ·simp only [pS, i64_w, i32_w]; rfl
             refine pure_ (i := 6) (N := some 57) (v := ?_) (a' := ?_) #[true, true, true, true, true, false, true, false, false] rfl rfl (any_of HT_.out (by kernel_rfl)) (fun _ _ _ h => h) (Or.inl ⟨by rfl, ?_⟩) ?_ ?_; rotate_left
             ·intro w'; go_simp; with_reducible rfl
             rotate_left
             ·simp only [pS, i64_w, i32_w]; rfl
             refine take_ (i := 5) (N := some 56) (v := ?_) (a' := ?_) #[true, true, true, true, true, true, true, false, false] rfl rfl (take_ofW HT_.out HW_.out (by kernel_rfl)) (fun _ _ _ h => h) (Or.inl ⟨by rfl, ?_⟩) hH ?_ ?_; rotate_left
             ·rintro w' ⟨s0, s1, s2, s3, s4, s5, s6, s7, s8⟩; go_simp; with_reducible rfl
             rotate_left
             ·simp only [pS, i64_w, i32_w]; rfl
             refine take_ (i := 7) (N := some 58) (v := ?_) (a' := ?_) #[true, true, true, true, true, true, true, true, false] rfl rfl (take_ofW HT_.out HW_.out (by kernel_rfl)) (fun _ _ _ h => h) (Or.inl ⟨by rfl, ?_⟩) hH ?_ ?_; rotate_left
             ·rintro w' ⟨s0, s1, s2, s3, s4, s5, s6, s7, s8⟩; go_simp; with_reducible rfl
             rotate_left
             ·simp only [pS, i64_w, i32_w]; rfl
             refine pure_ (i := 8) (N := some 59) (v := ?_) (a' := ?_) #[true, true, true, true, true, true, true, true, true] rfl rfl (any_of HT_.out (by kernel_rfl)) (fun _ _ _ h => h) (Or.inl ⟨by rfl, ?_⟩) ?_ ?_; rotate_left
             ·intro w'; go_simp; with_reducible rfl
             rotate_left
             ·simp only [pS, i64_w, i32_w]; rfl
             refine done_ (done_of HT_.out (by kernel_rfl)) ?_; try go_wp2
             go_roundg k3
             case measure => have := HJ5.out; have := HJ24.out; have := HK3.out; omega
             case rel => exact ⟨(x7_3), (wrap64 (x8_3 + 1)), (by first | rfl | (simp; done) | (simp [*]; done)), (by first | rfl | (simp; done) | (simp [*]; done)), H', ⟨by have := HJ5.out; have := HJ24.out; have := HK3.out; omega⟩, ⟨by (with_reducible repeat (first | apply Kd.RA | apply Kd.RN | apply Kd.RD)); exact HO_3.out⟩, ⟨by (with_reducible repeat (first | apply Kd.RA | apply Kd.RN | apply Kd.RD)); exact HO_5.out⟩, ⟨by (with_reducible repeat (first | refine bkN ?_ _ | refine bkD ?_ | refine bkA ?_ _)); exact BK433.out⟩, ⟨by repeat (first | (with_reducible first | exact HB.out | apply bwA | apply pwN | apply bw1 | refine bwS ?_ GE433.out) | exact HB.out)⟩⟩
           ·rw [if_neg c36] at H; exact absurd H (by simp)
          ·rw [if_neg c35] at H
           have c35b0 : decide (x8_3 < (t434.length : Int)) = false := decide_eq_false c35; clear c35; by_cases c56 : x7_3 = 1
           ·rw [if_pos c56] at H
            have c56b0 : (x7_3 == 1) = true := beq_iff_eq.mpr c56; have c56b1 : (x7_3 != 1) = false := bne_eq_false_iff_eq.mpr c56; clear c56; replace H := Option.bind_eq_some_iff.mp H; obtain ⟨t450, A570, H⟩ := H; replace H : (some t450) = some r := H; have A57 := Zz.mk A570; clear A570; obtain rfl := Option.some.inj H; obtain ⟨Ao58, co58, eo58⟩ := Kd.R_slice HO_5.out; subst eo58; go_wp2_with (first | (go_at_call 29; (with_reducible refine (impl_CastOk.calls k3 _ _ t434 t450 _ ?side1 ?side2 A57.out).mono ?_); (case side1 => repeat (first | exact (Kd.R_reads' HO_5.out).2.2 | (with_reducible refine Kd.CA ?_ _) | (with_reducible refine Kd.CN ?_ _) | (with_reducible refine Kd.CD ?_))); (case side2 => exact (Kd.R_reads' HO_5.out).2.1); rintro e w59 ⟨rfl, hb⟩; have n0_ := Zz.mk (Kd.R_below (by (with_reducible repeat (first | apply Kd.RA | apply Kd.RN | apply Kd.RD)); exact HO_3.out) hb); have n1_ := Zz.mk (Kd.R_below (by (with_reducible repeat (first | apply Kd.RA | apply Kd.RN | apply Kd.RD)); exact HO_5.out) hb); have n2_ := Zz.mk (bkB (g := gb433) (o := .cells #[.int .i64 t429, .int .i64 t430, .int .i64 t431, .bool t432] 30 (0, 0)) (by (with_reducible repeat (first | refine bkN ?_ _ | refine bkD ?_ | refine bkA ?_ _)); exact BK433.out) hb); have n3_ := Zz.mk (bwP (by repeat (first | (with_reducible first | exact HB.out | apply bwA | apply pwN | apply bw1 | refine bwS ?_ GE433.out) | exact HB.out)) hb); clear HO_3; clear HO_5; clear BK433; clear HB; have HO_3 := n0_; have HO_5 := n1_; have BK433 := n2_; have HB := n3_; clear n0_ n1_ n2_ n3_; (try clear hb); (try clear A57)))
            go_ret
            exact ⟨by first | rfl | (simp [eN, eS] <;> rfl) | (simp [*, eN, eS] <;> rfl), by repeat (first | (with_reducible first | exact HB.out | apply bwA | apply pwN | apply bw1 | refine bwS ?_ GE433.out) | exact HB.out)⟩
           ·rw [if_neg c56] at H
            have c56b0 : (x7_3 == 1) = false := beq_eq_false_iff_ne.mpr c56; have c56b1 : (x7_3 != 1) = true := bne_iff_ne.mpr c56; obtain rfl := Option.some.inj H; obtain ⟨Ao60, co60, eo60⟩ := Kd.R_slice HO_5.out; subst eo60; go_wp2
            go_ret
            exact ⟨by first | rfl | (simp [eN, eS] <;> rfl) | (simp [*, eN, eS] <;> rfl), by repeat (first | (with_reducible first | exact HB.out | apply bwA | apply pwN | apply bw1 | refine bwS ?_ GE433.out) | exact HB.out)⟩

/-- THE ONE PURE STATEMENT of laws_FnCastNew: yours. -/
def laws_FnCastNew.Pure : Prop := ∀ (l0 : List Int), l0.length ≤ maxLen → l0.length * 1 ≤ 140737488351232 → (∀ x ∈ l0, (Lit.int .u8 x).wf = true) → ∃ k, laws_FnCastNew.f k l0 = some true
theorem laws_FnCastNew.walk (P : laws_FnCastNew.Pure) (a0 : Option Addr) (len0 cap0 : Nat) (z0 : List Int) (w : World) (w0 : (a0 = none ∧ len0 = 0 ∧ cap0 = 0 ∧ z0 = []) ∨ ∃ x, a0 = some x ∧ len0 ≤ cap0 ∧ cap0 ≤ maxLen ∧ z0.length = cap0 ∧ (∀ i, i < z0.length → w.cell? (x.add i) = some (.int .u8 (z0.getD i 0))) ∧ ∀ n ∈ z0, (Lit.int .u8 n).wf = true) (y0 : len0 * 1 ≤ 140737488351232) :
  Calls Try.prog 9 #[.slice a0 len0 cap0] w fun e w' => e = .returned (.bool true) ∧ Below w.heap.size w w' := by
 obtain ⟨l0, rfl, hr0, hm0, hw0, hc0⟩ := ReadsInt.ofRowC w0; obtain ⟨k, h⟩ := P l0 hm0 y0 hw0; refine (laws_FnCastNew.calls k _ _ l0 true w (Kd.C_of_reads (d := (0 : Int)) (h1 := fun _ => rfl) hr0) hc0 h).mono ?_; rintro e w' ⟨rfl, hd⟩; exact ⟨rfl, hd⟩

end Go.Proofs.Ytjaihhgkcdnhnaa.PFnCastNew
