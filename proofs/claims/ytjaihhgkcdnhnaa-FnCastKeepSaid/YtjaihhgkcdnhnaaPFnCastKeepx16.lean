/- Functions of the program as plain functions, and that each call does what they tell. Conditions: none. -/
import Derived.Test.YtjaihhgkcdnhnaaPFnCastKeepx0
import Derived.Test.YtjaihhgkcdnhnaaPFnCastKeepx1
import Derived.Test.YtjaihhgkcdnhnaaPFnCastKeepx2
import Derived.Test.YtjaihhgkcdnhnaaPFnCastKeepx3
import Derived.Test.YtjaihhgkcdnhnaaPFnCastKeepx6
import Derived.Test.YtjaihhgkcdnhnaaPFnCastKeepx7
import Derived.Test.YtjaihhgkcdnhnaaPFnCastKeepx10
import Derived.Test.YtjaihhgkcdnhnaaPFnCastKeepx15
namespace Go.Proofs.Ytjaihhgkcdnhnaa.PFnCastKeep
open Go.RowKit Go.Proofs.YtjaihhgkcdnhnaaW.PrintWords Go.Proofs.YtjaihhgkcdnhnaaW.PrintLast Go.Proofs.YtjaihhgkcdnhnaaW.PrintMore
attribute [local go_sem] max2_int min2_int max_two min_two max_three min_three max_four min_four
set_option linter.unusedVariables false
set_option linter.unusedSimpArgs false

attribute [local go_sem high] eqA57
/-! ### laws_lhItems: function 36 -/
def laws_lhItems.l0 : Nat → List (S57) → List (S57) → Int → Option (Bool)
 | 0, _, _, _ => none
 | k + 1, x0, x1, x5 => if x5 < (x0.length : Int) then (if 0 ≤ x5 then (if x5 < (x1.length : Int) then (if ((!(((rd_T57 x0 x5).f0.f0) == ((rd_T57 x1 x5).f0.f0)) || (!(((rd_T57 x0 x5).f0.f1) == ((rd_T57 x1 x5).f0.f1)) || (!(((rd_T57 x0 x5).f0.f2) == ((rd_T57 x1 x5).f0.f2)) || (!(((rd_T57 x0 x5).f0.f3) == ((rd_T57 x1 x5).f0.f3)))))) || (!(((rd_T57 x0 x5).f1) == ((rd_T57 x1 x5).f1)))) = true then (some false) else (laws_lhItems.l0 k x0 x1 (wrap64 (x5 + 1)))) else (none)) else (none)) else (some true)
def laws_lhItems.f (k : Nat) (l0 : List (S57)) (l1 : List (S57)) : Option (Bool) := if (l0.length : Int) = (l1.length : Int) then (laws_lhItems.l0 k l0 l1 0) else (some false)
theorem laws_lhItems.mono_l : ∀ k, (∀ y0 y1 y2, LeO (laws_lhItems.l0 k y0 y1 y2) (laws_lhItems.l0 (k + 1) y0 y1 y2))
 | 0 => fun _ _ _ r h => by simp [laws_lhItems.l0] at h
 | k + 1 => by
  have ih0 := laws_lhItems.mono_l k
  ·intro y0 y1 y2
   unfold laws_lhItems.l0; repeat' first
   | (with_reducible exact ih0 _ _ _)
   | (with_reducible exact LeO.refl _)
   | (with_reducible exact LeO.none _)
   | (with_reducible refine LeO.ite ?_ ?_)
   | (with_reducible refine LeO.bind ?_ (fun _ => ?_))
   | exact ih0 _ _ _
   | exact LeO.none _
   | refine LeO.ite ?_ ?_
   | refine LeO.bind ?_ (fun _ => ?_)
theorem laws_lhItems.mono : ∀ a0 a1 k, LeO (laws_lhItems.f k a0 a1) (laws_lhItems.f (k + 1) a0 a1) := by
 intro a0 a1 k; have ih0 := laws_lhItems.mono_l k; unfold laws_lhItems.f
 repeat' first
   | (with_reducible exact ih0 _ _ _)
   | (with_reducible exact LeO.refl _)
   | (with_reducible exact LeO.none _)
   | (with_reducible refine LeO.ite ?_ ?_)
   | (with_reducible refine LeO.bind ?_ (fun _ => ?_))
   | exact ih0 _ _ _
   | exact LeO.none _
   | refine LeO.ite ?_ ?_
   | refine LeO.bind ?_ (fun _ => ?_)
set_option maxHeartbeats 8000000 in
set_option maxRecDepth 100000 in
theorem laws_lhItems.calls (k : Nat) (A0 : Option Addr) (c0 : Nat) (l0 : List (S57)) (A1 : Option Addr) (c1 : Nat) (l1 : List (S57)) (r : Bool) (w : World) (hr0 : Kd.C k57 w A0 l0.length l0) (hc0 : l0.length ≤ c0) (hr1 : Kd.C k57 w A1 l1.length l1) (hc1 : l1.length ≤ c1) (h : laws_lhItems.f k l0 l1 = some r) :
  Calls Try.prog 36 #[.slice A0 l0.length c0, .slice A1 l1.length c1] w fun e w' => e = .returned (.bool r) ∧ Drawn0 w w' := by
 have hu57 := Try.underlying57; have HR0 := Zz.mk hr0; have HC0 := Zz.mk hc0; clear hr0 hc0; have HR1 := Zz.mk hr1; have HC1 := Zz.mk hc1; clear hr1 hc1; have H : (if (l0.length : Int) = (l1.length : Int) then (laws_lhItems.l0 k l0 l1 0) else (some false)) = some r := h; clear h; by_cases c3 : (l0.length : Int) = (l1.length : Int)
 ·rw [if_pos c3] at H
  have c3b0 : ((l0.length : Int) == (l1.length : Int)) = true := beq_iff_eq.mpr c3; have c3b1 : ((l0.length : Int) != (l1.length : Int)) = false := bne_eq_false_iff_eq.mpr c3; have c3b2 : (l0.length == l1.length) = true := by first | simpa using c3 | (simp at c3 ⊢; omega)
  clear c3; have H' := Zz.mk H; clear H; go_enter Try.func36, Try.ntmps36; go_wp2
  repeat (go_quiet (fail); try go_wp2)
  go_loopg [5] k (fun kq v5 w' => ∃ (x5_1 : Int), v5 = .int .i64 x5_1 ∧ Zz (laws_lhItems.l0 kq l0 l1 x5_1 = some r) ∧ Zz (kq ≤ k) ∧ Drawn0 w w')
  case atStart => exact ⟨(0), (by first | rfl | (simp; done) | (simp [*]; done)), H', ⟨Nat.le_refl _⟩, by repeat (first | exact Drawn0.refl _ | apply Drawn0.step)⟩
  case round =>
   clear H'; try clear c1
   try clear p2
   try clear c3
   try clear c3b0
   try clear c3b1
   try clear c3b2
   obtain ⟨x5_1, rfl, HA, HK1, ⟨m1, rfl⟩⟩ := hrel; cases gk with
   | zero => exact absurd HA.out (by simp [laws_lhItems.l0])
   | succ k1 =>
    have H := HA.out; clear HA; simp only [laws_lhItems.l0] at H; by_cases c4 : x5_1 < (l0.length : Int)
    ·rw [if_pos c4] at H
     have c4b0 : decide (x5_1 < (l0.length : Int)) = true := decide_eq_true c4; clear c4; by_cases c5 : 0 ≤ x5_1
     ·rw [if_pos c5] at H
      have c5b0 : decide (0 ≤ x5_1) = true := decide_eq_true c5; clear c5; by_cases c6 : x5_1 < (l1.length : Int)
      ·rw [if_pos c6] at H
       have c6b0 : decide (x5_1 < (l1.length : Int)) = true := decide_eq_true c6; clear c6; by_cases c7 : ((!(((rd_T57 l0 x5_1).f0.f0) == ((rd_T57 l1 x5_1).f0.f0)) || (!(((rd_T57 l0 x5_1).f0.f1) == ((rd_T57 l1 x5_1).f0.f1)) || (!(((rd_T57 l0 x5_1).f0.f2) == ((rd_T57 l1 x5_1).f0.f2)) || (!(((rd_T57 l0 x5_1).f0.f3) == ((rd_T57 l1 x5_1).f0.f3)))))) || (!(((rd_T57 l0 x5_1).f1) == ((rd_T57 l1 x5_1).f1)))) = true
       ·rw [if_pos c7] at H
        have c7b0 : ((!(((rd_T57 l0 x5_1).f0.f0) == ((rd_T57 l1 x5_1).f0.f0)) || (!(((rd_T57 l0 x5_1).f0.f1) == ((rd_T57 l1 x5_1).f0.f1)) || (!(((rd_T57 l0 x5_1).f0.f2) == ((rd_T57 l1 x5_1).f0.f2)) || (!(((rd_T57 l0 x5_1).f0.f3) == ((rd_T57 l1 x5_1).f0.f3)))))) || (!(((rd_T57 l0 x5_1).f1) == ((rd_T57 l1 x5_1).f1)))) = true := c7; clear c7; obtain rfl := Option.some.inj H; have p442 : 0 ≤ (x5_1 : Int) := of_decide_eq_true (by first | (with_reducible assumption) | assumption); have q442 : x5_1 < (l0.length : Int) := of_decide_eq_true (by first | (with_reducible assumption) | assumption); obtain ⟨ad442, e442, hx442_0, hx442_1, hx442_2, hx442_3, hx442_4⟩ := at_T57 HR0.out x5_1 p442 q442; cases e442
        replace p442 := eq_true p442; replace q442 := eq_true q442; have p443 : 0 ≤ (x5_1 : Int) := of_decide_eq_true (by first | (with_reducible assumption) | assumption); have q443 : x5_1 < (l1.length : Int) := of_decide_eq_true (by first | (with_reducible assumption) | assumption); obtain ⟨ad443, e443, hx443_0, hx443_1, hx443_2, hx443_3, hx443_4⟩ := at_T57 HR1.out x5_1 p443 q443; cases e443
        replace p443 := eq_true p443; replace q443 := eq_true q443; go_wp2
        repeat (go_quiet (fail); try go_wp2)
        go_ret
        exact ⟨by first | rfl | (simp; done) | (simp [*]; done), by repeat (first | exact Drawn0.refl _ | apply Drawn0.step)⟩
       ·rw [if_neg c7] at H
        have c7b0 : ((!(((rd_T57 l0 x5_1).f0.f0) == ((rd_T57 l1 x5_1).f0.f0)) || (!(((rd_T57 l0 x5_1).f0.f1) == ((rd_T57 l1 x5_1).f0.f1)) || (!(((rd_T57 l0 x5_1).f0.f2) == ((rd_T57 l1 x5_1).f0.f2)) || (!(((rd_T57 l0 x5_1).f0.f3) == ((rd_T57 l1 x5_1).f0.f3)))))) || (!(((rd_T57 l0 x5_1).f1) == ((rd_T57 l1 x5_1).f1)))) = false := by simpa using c7
        clear c7; have H' := Zz.mk H; clear H; have p442 : 0 ≤ (x5_1 : Int) := of_decide_eq_true (by first | (with_reducible assumption) | assumption); have q442 : x5_1 < (l0.length : Int) := of_decide_eq_true (by first | (with_reducible assumption) | assumption); obtain ⟨ad442, e442, hx442_0, hx442_1, hx442_2, hx442_3, hx442_4⟩ := at_T57 HR0.out x5_1 p442 q442; cases e442
        replace p442 := eq_true p442; replace q442 := eq_true q442; have p443 : 0 ≤ (x5_1 : Int) := of_decide_eq_true (by first | (with_reducible assumption) | assumption); have q443 : x5_1 < (l1.length : Int) := of_decide_eq_true (by first | (with_reducible assumption) | assumption); obtain ⟨ad443, e443, hx443_0, hx443_1, hx443_2, hx443_3, hx443_4⟩ := at_T57 HR1.out x5_1 p443 q443; cases e443
        replace p443 := eq_true p443; replace q443 := eq_true q443; go_wp2
        repeat (go_quiet (fail); try go_wp2)
        go_roundg k1
        case measure => have := HK1.out; omega
        case rel => exact ⟨(wrap64 (x5_1 + 1)), (by first | rfl | (simp; done) | (simp [*]; done)), H', ⟨by have := HK1.out; omega⟩, by repeat (first | exact Drawn0.refl _ | apply Drawn0.step)⟩
      ·rw [if_neg c6] at H; exact absurd H (by simp)
     ·rw [if_neg c5] at H; exact absurd H (by simp)
    ·rw [if_neg c4] at H
     have c4b0 : decide (x5_1 < (l0.length : Int)) = false := decide_eq_false c4; clear c4; obtain rfl := Option.some.inj H; go_wp2
     repeat (go_quiet (fail); try go_wp2)
     go_ret
     exact ⟨by first | rfl | (simp; done) | (simp [*]; done), by repeat (first | exact Drawn0.refl _ | apply Drawn0.step)⟩
 ·rw [if_neg c3] at H
  have c3b0 : ((l0.length : Int) == (l1.length : Int)) = false := beq_eq_false_iff_ne.mpr c3; have c3b1 : ((l0.length : Int) != (l1.length : Int)) = true := bne_iff_ne.mpr c3; have c3b2 : (l0.length == l1.length) = false := by first | simpa using c3 | (simp at c3 ⊢; omega)
  obtain rfl := Option.some.inj H; go_enter Try.func36, Try.ntmps36; go_wp2
  repeat (go_quiet (fail); try go_wp2)
  go_ret
  exact ⟨by first | rfl | (simp; done) | (simp [*]; done), by repeat (first | exact Drawn0.refl _ | apply Drawn0.step)⟩

/-! ### laws_FnCastKeep: function 8 -/
mutual
def laws_FnCastKeep.j0 : Nat → List (S57) → List (S57) → Bool → Int → Int → Int → Bool → Option (Bool)
 | 0, _, _, _, _, _, _, _ => none
 | k + 1, x3, x5, x32, x452000, x452001, x452002, x452003 => if x32 = true then (some false) else (laws_FnCastKeep.l0 k x3 x5 0 x452000 x452001 x452002 x452003)
def laws_FnCastKeep.l0 : Nat → List (S57) → List (S57) → Int → Int → Int → Int → Bool → Option (Bool)
 | 0, _, _, _, _, _, _, _ => none
 | k + 1, x3, x5, x6, x452000, x452001, x452002, x452003 => if x6 < (x3.length : Int) then ((spec_CastOk.f k x3).bind fun t461 => (if t461 = true then ((spec_FactOk.f x452000 x452001 x452002 x452003).bind fun t462 => (laws_FnCastKeep.j2 k x3 x5 x6 t462 x452000 x452001 x452002 x452003)) else (laws_FnCastKeep.j2 k x3 x5 x6 false x452000 x452001 x452002 x452003))) else (laws_FnCastKeep.j2 k x3 x5 x6 false x452000 x452001 x452002 x452003)
def laws_FnCastKeep.j2 : Nat → List (S57) → List (S57) → Int → Bool → Int → Int → Int → Bool → Option (Bool)
 | 0, _, _, _, _, _, _, _, _ => none
 | k + 1, x3, x5, x6, x44, x452000, x452001, x452002, x452003 => if x44 = true then (if 0 ≤ x6 then (if x6 < (x3.length : Int) then (laws_FnCastKeep.l1 k x3 x5 x6 (((rd_T57 x3 x6).f0.f0) == x452000) 0 x452000 x452001 x452002 x452003) else (none)) else (none)) else (some true)
def laws_FnCastKeep.l1 : Nat → List (S57) → List (S57) → Int → Bool → Int → Int → Int → Int → Bool → Option (Bool)
 | 0, _, _, _, _, _, _, _, _, _ => none
 | k + 1, x3, x5, x6, x7, x8, x452000, x452001, x452002, x452003 => if x8 < (x5.length : Int) then (if x7 = true then (laws_FnCastKeep.l1 k x3 x5 x6 true (wrap64 (x8 + 1)) x452000 x452001 x452002 x452003) else (if 0 ≤ x8 then (if 0 ≤ x6 then (if x6 < (x3.length : Int) then (laws_FnCastKeep.l1 k x3 x5 x6 ((((rd_T57 x5 x8).f0.f0) == ((rd_T57 x3 x6).f0.f0) && (((rd_T57 x5 x8).f0.f1) == ((rd_T57 x3 x6).f0.f1) && (((rd_T57 x5 x8).f0.f2) == ((rd_T57 x3 x6).f0.f2) && (((rd_T57 x5 x8).f0.f3) == ((rd_T57 x3 x6).f0.f3))))) && (((rd_T57 x5 x8).f1) == ((rd_T57 x3 x6).f1))) (wrap64 (x8 + 1)) x452000 x452001 x452002 x452003) else (none)) else (none)) else (none))) else (if x7 = true then (laws_FnCastKeep.l0 k x3 x5 (wrap64 (x6 + 1)) x452000 x452001 x452002 x452003) else (some false))
end
def laws_FnCastKeep.f (k : Nat) (l0 : List Int) : Option (Bool) := if (l0.length : Int) > 1048576 then (some true) else ((spec_DrawCastPut.f k l0).bind fun bt444 => ((impl_CastPut.f k bt444.1 bt444.2.1 bt444.2.2.1 bt444.2.2.2.1 bt444.2.2.2.2).bind fun t452 => ((spec_CastPut.f k bt444.1 bt444.2.1 bt444.2.2.1 bt444.2.2.2.1 bt444.2.2.2.2).bind fun t455 => ((laws_lhItems.f k t452 t455).bind fun t458 => (if t458 = true then ((impl_CastOk.f k bt444.1).bind fun t459 => ((spec_CastOk.f k bt444.1).bind fun t460 => (laws_FnCastKeep.j0 k bt444.1 t452 (t459 != t460) bt444.2.1 bt444.2.2.1 bt444.2.2.2.1 bt444.2.2.2.2))) else (laws_FnCastKeep.j0 k bt444.1 t452 true bt444.2.1 bt444.2.2.1 bt444.2.2.2.1 bt444.2.2.2.2))))))
theorem laws_FnCastKeep.mono_l : ∀ k, (∀ y0 y1 y2 y3 y4 y5 y6, LeO (laws_FnCastKeep.j0 k y0 y1 y2 y3 y4 y5 y6) (laws_FnCastKeep.j0 (k + 1) y0 y1 y2 y3 y4 y5 y6)) ∧ (∀ y0 y1 y2 y3 y4 y5 y6, LeO (laws_FnCastKeep.l0 k y0 y1 y2 y3 y4 y5 y6) (laws_FnCastKeep.l0 (k + 1) y0 y1 y2 y3 y4 y5 y6)) ∧ (∀ y0 y1 y2 y3 y4 y5 y6 y7, LeO (laws_FnCastKeep.j2 k y0 y1 y2 y3 y4 y5 y6 y7) (laws_FnCastKeep.j2 (k + 1) y0 y1 y2 y3 y4 y5 y6 y7)) ∧ (∀ y0 y1 y2 y3 y4 y5 y6 y7 y8, LeO (laws_FnCastKeep.l1 k y0 y1 y2 y3 y4 y5 y6 y7 y8) (laws_FnCastKeep.l1 (k + 1) y0 y1 y2 y3 y4 y5 y6 y7 y8))
 | 0 => ⟨fun _ _ _ _ _ _ _ r h => by simp [laws_FnCastKeep.j0] at h, fun _ _ _ _ _ _ _ r h => by simp [laws_FnCastKeep.l0] at h, fun _ _ _ _ _ _ _ _ r h => by simp [laws_FnCastKeep.j2] at h, fun _ _ _ _ _ _ _ _ _ r h => by simp [laws_FnCastKeep.l1] at h⟩
 | k + 1 => by
  obtain ⟨ih0, ih1, ih2, ih3⟩ := laws_FnCastKeep.mono_l k; refine ⟨?_, ?_, ?_, ?_⟩
  ·intro y0 y1 y2 y3 y4 y5 y6
   unfold laws_FnCastKeep.j0; repeat' first
   | (with_reducible exact ih0 _ _ _ _ _ _ _)
   | (with_reducible exact ih1 _ _ _ _ _ _ _)
   | (with_reducible exact ih2 _ _ _ _ _ _ _ _)
   | (with_reducible exact ih3 _ _ _ _ _ _ _ _ _)
   | (with_reducible exact impl_CastOk.mono _ _)
   | (with_reducible exact impl_CastPut.mono _ _ _ _ _ _)
   | (with_reducible exact laws_lhItems.mono _ _ _)
   | (with_reducible exact spec_CastOk.mono _ _)
   | (with_reducible exact spec_CastPut.mono _ _ _ _ _ _)
   | (with_reducible exact spec_DrawCastPut.mono _ _)
   | (with_reducible exact LeO.refl _)
   | (with_reducible exact LeO.none _)
   | (with_reducible refine LeO.ite ?_ ?_)
   | (with_reducible refine LeO.bind ?_ (fun _ => ?_))
   | exact ih0 _ _ _ _ _ _ _
   | exact ih1 _ _ _ _ _ _ _
   | exact ih2 _ _ _ _ _ _ _ _
   | exact ih3 _ _ _ _ _ _ _ _ _
   | exact impl_CastOk.mono _ _
   | exact impl_CastPut.mono _ _ _ _ _ _
   | exact laws_lhItems.mono _ _ _
   | exact spec_CastOk.mono _ _
   | exact spec_CastPut.mono _ _ _ _ _ _
   | exact spec_DrawCastPut.mono _ _
   | exact LeO.none _
   | refine LeO.ite ?_ ?_
   | refine LeO.bind ?_ (fun _ => ?_)
  ·intro y0 y1 y2 y3 y4 y5 y6
   unfold laws_FnCastKeep.l0; repeat' first
   | (with_reducible exact ih0 _ _ _ _ _ _ _)
   | (with_reducible exact ih1 _ _ _ _ _ _ _)
   | (with_reducible exact ih2 _ _ _ _ _ _ _ _)
   | (with_reducible exact ih3 _ _ _ _ _ _ _ _ _)
   | (with_reducible exact impl_CastOk.mono _ _)
   | (with_reducible exact impl_CastPut.mono _ _ _ _ _ _)
   | (with_reducible exact laws_lhItems.mono _ _ _)
   | (with_reducible exact spec_CastOk.mono _ _)
   | (with_reducible exact spec_CastPut.mono _ _ _ _ _ _)
   | (with_reducible exact spec_DrawCastPut.mono _ _)
   | (with_reducible exact LeO.refl _)
   | (with_reducible exact LeO.none _)
   | (with_reducible refine LeO.ite ?_ ?_)
   | (with_reducible refine LeO.bind ?_ (fun _ => ?_))
   | exact ih0 _ _ _ _ _ _ _
   | exact ih1 _ _ _ _ _ _ _
   | exact ih2 _ _ _ _ _ _ _ _
   | exact ih3 _ _ _ _ _ _ _ _ _
   | exact impl_CastOk.mono _ _
   | exact impl_CastPut.mono _ _ _ _ _ _
   | exact laws_lhItems.mono _ _ _
   | exact spec_CastOk.mono _ _
   | exact spec_CastPut.mono _ _ _ _ _ _
   | exact spec_DrawCastPut.mono _ _
   | exact LeO.none _
   | refine LeO.ite ?_ ?_
   | refine LeO.bind ?_ (fun _ => ?_)
  ·intro y0 y1 y2 y3 y4 y5 y6 y7
   unfold laws_FnCastKeep.j2; repeat' first
   | (with_reducible exact ih0 _ _ _ _ _ _ _)
   | (with_reducible exact ih1 _ _ _ _ _ _ _)
   | (with_reducible exact ih2 _ _ _ _ _ _ _ _)
   | (with_reducible exact ih3 _ _ _ _ _ _ _ _ _)
   | (with_reducible exact impl_CastOk.mono _ _)
   | (with_reducible exact impl_CastPut.mono _ _ _ _ _ _)
   | (with_reducible exact laws_lhItems.mono _ _ _)
   | (with_reducible exact spec_CastOk.mono _ _)
   | (with_reducible exact spec_CastPut.mono _ _ _ _ _ _)
   | (with_reducible exact spec_DrawCastPut.mono _ _)
   | (with_reducible exact LeO.refl _)
   | (with_reducible exact LeO.none _)
   | (with_reducible refine LeO.ite ?_ ?_)
   | (with_reducible refine LeO.bind ?_ (fun _ => ?_))
   | exact ih0 _ _ _ _ _ _ _
   | exact ih1 _ _ _ _ _ _ _
   | exact ih2 _ _ _ _ _ _ _ _
   | exact ih3 _ _ _ _ _ _ _ _ _
   | exact impl_CastOk.mono _ _
   | exact impl_CastPut.mono _ _ _ _ _ _
   | exact laws_lhItems.mono _ _ _
   | exact spec_CastOk.mono _ _
   | exact spec_CastPut.mono _ _ _ _ _ _
   | exact spec_DrawCastPut.mono _ _
   | exact LeO.none _
   | refine LeO.ite ?_ ?_
   | refine LeO.bind ?_ (fun _ => ?_)
  ·intro y0 y1 y2 y3 y4 y5 y6 y7 y8
   unfold laws_FnCastKeep.l1; repeat' first
   | (with_reducible exact ih0 _ _ _ _ _ _ _)
   | (with_reducible exact ih1 _ _ _ _ _ _ _)
   | (with_reducible exact ih2 _ _ _ _ _ _ _ _)
   | (with_reducible exact ih3 _ _ _ _ _ _ _ _ _)
   | (with_reducible exact impl_CastOk.mono _ _)
   | (with_reducible exact impl_CastPut.mono _ _ _ _ _ _)
   | (with_reducible exact laws_lhItems.mono _ _ _)
   | (with_reducible exact spec_CastOk.mono _ _)
   | (with_reducible exact spec_CastPut.mono _ _ _ _ _ _)
   | (with_reducible exact spec_DrawCastPut.mono _ _)
   | (with_reducible exact LeO.refl _)
   | (with_reducible exact LeO.none _)
   | (with_reducible refine LeO.ite ?_ ?_)
   | (with_reducible refine LeO.bind ?_ (fun _ => ?_))
   | exact ih0 _ _ _ _ _ _ _
   | exact ih1 _ _ _ _ _ _ _
   | exact ih2 _ _ _ _ _ _ _ _
   | exact ih3 _ _ _ _ _ _ _ _ _
   | exact impl_CastOk.mono _ _
   | exact impl_CastPut.mono _ _ _ _ _ _
   | exact laws_lhItems.mono _ _ _
   | exact spec_CastOk.mono _ _
   | exact spec_CastPut.mono _ _ _ _ _ _
   | exact spec_DrawCastPut.mono _ _
   | exact LeO.none _
   | refine LeO.ite ?_ ?_
   | refine LeO.bind ?_ (fun _ => ?_)
theorem laws_FnCastKeep.mono : ∀ a0 k, LeO (laws_FnCastKeep.f k a0) (laws_FnCastKeep.f (k + 1) a0) := by
 intro a0 k; obtain ⟨ih0, ih1, ih2, ih3⟩ := laws_FnCastKeep.mono_l k; unfold laws_FnCastKeep.f
 repeat' first
   | (with_reducible exact ih0 _ _ _ _ _ _ _)
   | (with_reducible exact ih1 _ _ _ _ _ _ _)
   | (with_reducible exact ih2 _ _ _ _ _ _ _ _)
   | (with_reducible exact ih3 _ _ _ _ _ _ _ _ _)
   | (with_reducible exact impl_CastOk.mono _ _)
   | (with_reducible exact impl_CastPut.mono _ _ _ _ _ _)
   | (with_reducible exact laws_lhItems.mono _ _ _)
   | (with_reducible exact spec_CastOk.mono _ _)
   | (with_reducible exact spec_CastPut.mono _ _ _ _ _ _)
   | (with_reducible exact spec_DrawCastPut.mono _ _)
   | (with_reducible exact LeO.refl _)
   | (with_reducible exact LeO.none _)
   | (with_reducible refine LeO.ite ?_ ?_)
   | (with_reducible refine LeO.bind ?_ (fun _ => ?_))
   | exact ih0 _ _ _ _ _ _ _
   | exact ih1 _ _ _ _ _ _ _
   | exact ih2 _ _ _ _ _ _ _ _
   | exact ih3 _ _ _ _ _ _ _ _ _
   | exact impl_CastOk.mono _ _
   | exact impl_CastPut.mono _ _ _ _ _ _
   | exact laws_lhItems.mono _ _ _
   | exact spec_CastOk.mono _ _
   | exact spec_CastPut.mono _ _ _ _ _ _
   | exact spec_DrawCastPut.mono _ _
   | exact LeO.none _
   | refine LeO.ite ?_ ?_
   | refine LeO.bind ?_ (fun _ => ?_)
set_option maxHeartbeats 8000000 in
set_option maxRecDepth 100000 in
theorem laws_FnCastKeep.calls (k : Nat) (A0 : Option Addr) (c0 : Nat) (l0 : List Int) (r : Bool) (w : World) (hr0 : Kd.C (Kd.int .u8) w A0 l0.length l0) (hc0 : l0.length ≤ c0) (h : laws_FnCastKeep.f k l0 = some r) :
  Calls Try.prog 8 #[.slice A0 l0.length c0] w fun e w' => e = .returned (.bool r) ∧ Below w.heap.size w w' := by
 have hu30 := Try.underlying30; have hu57 := Try.underlying57; have HR0 := Zz.mk hr0; have HC0 := Zz.mk hc0; clear hr0 hc0; have HB := Zz.mk (Below.refl w.heap.size w); have H : (if (l0.length : Int) > 1048576 then (some true) else ((spec_DrawCastPut.f k l0).bind fun bt444 => ((impl_CastPut.f k bt444.1 bt444.2.1 bt444.2.2.1 bt444.2.2.2.1 bt444.2.2.2.2).bind fun t452 => ((spec_CastPut.f k bt444.1 bt444.2.1 bt444.2.2.1 bt444.2.2.2.1 bt444.2.2.2.2).bind fun t455 => ((laws_lhItems.f k t452 t455).bind fun t458 => (if t458 = true then ((impl_CastOk.f k bt444.1).bind fun t459 => ((spec_CastOk.f k bt444.1).bind fun t460 => (laws_FnCastKeep.j0 k bt444.1 t452 (t459 != t460) bt444.2.1 bt444.2.2.1 bt444.2.2.2.1 bt444.2.2.2.2))) else (laws_FnCastKeep.j0 k bt444.1 t452 true bt444.2.1 bt444.2.2.1 bt444.2.2.2.1 bt444.2.2.2.2))))))) = some r := h; clear h; by_cases c2 : (l0.length : Int) > 1048576
 ·rw [if_pos c2] at H
  have c2b0 : decide (1048576 < (l0.length : Int)) = true := decide_eq_true c2; have c2b1 : decide (1048576 < l0.length) = true := decide_eq_true (by omega); clear c2; obtain rfl := Option.some.inj H; go_enter Try.func8, Try.ntmps8; go_wp2
  repeat (go_quiet (fail); try go_wp2)
  go_ret
  exact ⟨by first | rfl | (simp [eN, eS] <;> rfl) | (simp [*, eN, eS] <;> rfl), by repeat (first | (with_reducible first | exact HB.out | apply bwA | apply pwN | apply bw1) | exact HB.out)⟩
 ·rw [if_neg c2] at H
  have c2b0 : decide (1048576 < (l0.length : Int)) = false := decide_eq_false c2; have c2b1 : decide (1048576 < l0.length) = false := decide_eq_false (by omega); clear c2; replace H := Option.bind_eq_some_iff.mp H; obtain ⟨⟨t444, t447, t448, t449, t450⟩, A30, H⟩ := H; replace H : ((impl_CastPut.f k t444 t447 t448 t449 t450).bind fun t452 => ((spec_CastPut.f k t444 t447 t448 t449 t450).bind fun t455 => ((laws_lhItems.f k t452 t455).bind fun t458 => (if t458 = true then ((impl_CastOk.f k t444).bind fun t459 => ((spec_CastOk.f k t444).bind fun t460 => (laws_FnCastKeep.j0 k t444 t452 (t459 != t460) t447 t448 t449 t450))) else (laws_FnCastKeep.j0 k t444 t452 true t447 t448 t449 t450))))) = some r := H; have A3 := Zz.mk A30; clear A30; replace H := Option.bind_eq_some_iff.mp H; obtain ⟨t452, A40, H⟩ := H; replace H : ((spec_CastPut.f k t444 t447 t448 t449 t450).bind fun t455 => ((laws_lhItems.f k t452 t455).bind fun t458 => (if t458 = true then ((impl_CastOk.f k t444).bind fun t459 => ((spec_CastOk.f k t444).bind fun t460 => (laws_FnCastKeep.j0 k t444 t452 (t459 != t460) t447 t448 t449 t450))) else (laws_FnCastKeep.j0 k t444 t452 true t447 t448 t449 t450)))) = some r := H; have A4 := Zz.mk A40; clear A40; have HC5 := Zz.mk H; clear H; go_enter Try.func8, Try.ntmps8; go_upto_region 5 with (first | (go_at_call 35; (with_reducible refine (spec_DrawCastPut.calls k _ _ l0 t444 t447 t448 t449 t450 _ ?side1 ?side2 A3.out).mono ?_); (case side1 => repeat (first | exact HR0.out | (with_reducible refine Kd.CA ?_ _) | (with_reducible refine Kd.CN ?_ _) | (with_reducible refine Kd.CD ?_))); (case side2 => exact HC0.out); rintro e w6 ⟨v445, rfl, ho0, hb⟩; have n0_ := Zz.mk (Kd.R_lower ho0 (bwZ (by repeat (first | (with_reducible first | exact HB.out | apply bwA | apply pwN | apply bw1) | exact HB.out)))); have n1_ := Zz.mk (bwP (by repeat (first | (with_reducible first | exact HB.out | apply bwA | apply pwN | apply bw1) | exact HB.out)) hb); clear HB; have HO446 := n0_; have HB := n1_; clear n0_ n1_; (try clear hb); (try clear ho0); (try clear A3)) | ((with_reducible refine gate_dst (N := 4) rfl ?_); refine box_event ?hg (N := 4) ?hd (cs := #[.int .i64 0, .int .i64 0, .int .i64 0, .bool false]) (t := 30) ?hr ?_; (case hd => rfl); (case hg => rfl); (case hr => first | (go_simp; done) | (go_simp; rfl)); intro gb451 hg w7 hbox hb; have n0_ := Zz.mk (Kd.R_below (by (with_reducible repeat (first | apply Kd.RA | apply Kd.RN | apply Kd.RD)); exact HO446.out) hb); have n1_ := Zz.mk (bwP (by repeat (first | (with_reducible first | exact HB.out | apply bwA | apply pwN | apply bw1) | exact HB.out)) hb); have n2_ := Zz.mk (hbox); have n3_ := Zz.mk ((by rw [hg]; exact (bwZ (by repeat (first | (with_reducible first | exact HB.out | apply bwA | apply pwN | apply bw1) | exact HB.out))) : w.heap.size ≤ gb451)); have n4_ := Zz.mk ((by rw [hg]; exact (bwZ (by repeat (first | (with_reducible first | exact HB.out | apply bwA | apply pwN | apply bw1) | exact HB.out))) : w.heap.size ≤ gb451)); clear HO446; clear HB; have HO446 := n0_; have HB := n1_; have BK451 := n2_; have GW451 := n3_; have GE451 := n4_; clear n0_ n1_ n2_ n3_ n4_; clear hb hbox hg; have hcz8_0 : w7.cell? ⟨gb451, 0, none⟩ = some (.int .i64 0) := (bkC BK451.out 0).trans rfl; have hcz8_1 : w7.cell? ⟨gb451, 1, none⟩ = some (.int .i64 0) := (bkC BK451.out 1).trans rfl; have hcz8_2 : w7.cell? ⟨gb451, 2, none⟩ = some (.int .i64 0) := (bkC BK451.out 2).trans rfl; have hcz8_3 : w7.cell? ⟨gb451, 3, none⟩ = some (.bool false) := (bkC BK451.out 3).trans rfl; have hfz8_0 := bkF BK451.out 0; have hfz8_1 := bkF BK451.out 1; have hfz8_2 := bkF BK451.out 2; have hfz8_3 := bkF BK451.out 3; obtain ⟨Ao9, co9, eo9⟩ := Kd.R_slice HO446.out; subst eo9) | (go_at_call 32; (with_reducible refine (impl_CastPut.calls k _ _ t444 t447 t448 t449 t450 t452 _ ?side1 ?side2 A4.out).mono ?_); (case side1 => refine (Kd.R_reads' (e := 57) (base := w.heap.size) (ok := fun k_ => True) (n := t444.length) (c := co9) ?_).2.2; exact (by (with_reducible repeat (first | apply Kd.RA | apply Kd.RN | apply Kd.RD)); exact (Kd.R_mono (Kd.R_far (p := ⟨gb451, 3, none⟩) (Kd.R_far (p := ⟨gb451, 2, none⟩) (Kd.R_far (p := ⟨gb451, 1, none⟩) (Kd.R_far (p := ⟨gb451, 0, none⟩) (Kd.R_types HO446.out BK451.out (by decide)) (fun _ hk => hk.2) (.int .i64 t447)) (fun _ hk => hk.2) (.int .i64 t448)) (fun _ hk => hk.2) (.int .i64 t449)) (fun _ hk => hk.2) (.bool t450)) (fun _ h_ => h_.1)))); (case side2 => exact (Kd.R_reads' HO446.out).2.1); rintro e w10 ⟨v453, rfl, ho0, hb⟩; have n0_ := Zz.mk (Kd.R_elder' (by (with_reducible repeat (first | apply Kd.RA | apply Kd.RN | apply Kd.RD)); exact (Kd.R_mono (Kd.R_far (p := ⟨gb451, 3, none⟩) (Kd.R_far (p := ⟨gb451, 2, none⟩) (Kd.R_far (p := ⟨gb451, 1, none⟩) (Kd.R_far (p := ⟨gb451, 0, none⟩) (Kd.R_types HO446.out BK451.out (by decide)) (fun _ hk => hk.2) (.int .i64 t447)) (fun _ hk => hk.2) (.int .i64 t448)) (fun _ hk => hk.2) (.int .i64 t449)) (fun _ hk => hk.2) (.bool t450)) (fun _ h_ => h_.1))) (Kd.R_base ho0) hb); have n1_ := Zz.mk (Kd.R_lower (Kd.R_new' ho0 (Kd.R_lt (by (with_reducible repeat (first | apply Kd.RA | apply Kd.RN | apply Kd.RD)); exact (Kd.R_mono (Kd.R_far (p := ⟨gb451, 3, none⟩) (Kd.R_far (p := ⟨gb451, 2, none⟩) (Kd.R_far (p := ⟨gb451, 1, none⟩) (Kd.R_far (p := ⟨gb451, 0, none⟩) (Kd.R_types HO446.out BK451.out (by decide)) (fun _ hk => hk.2) (.int .i64 t447)) (fun _ hk => hk.2) (.int .i64 t448)) (fun _ hk => hk.2) (.int .i64 t449)) (fun _ hk => hk.2) (.bool t450)) (fun _ h_ => h_.1))))) (bwZ (by repeat (first | (with_reducible first | exact HB.out | apply bwA | apply pwN | apply bw1 | refine bwS ?_ GE451.out) | exact HB.out)))); have n2_ := Zz.mk (bkB (g := gb451) (o := .cells #[.int .i64 t447, .int .i64 t448, .int .i64 t449, .bool t450] 30 (0, 0)) (by (with_reducible repeat (first | refine bkN ?_ _ | refine bkD ?_ | refine bkA ?_ _)); refine blk_put (cs := #[.int .i64 t447, .int .i64 t448, .int .i64 t449, .bool false]) ?_ 3 _ rfl; (with_reducible repeat (first | refine bkN ?_ _ | refine bkD ?_ | refine bkA ?_ _)); refine blk_put (cs := #[.int .i64 t447, .int .i64 t448, .int .i64 0, .bool false]) ?_ 2 _ rfl; (with_reducible repeat (first | refine bkN ?_ _ | refine bkD ?_ | refine bkA ?_ _)); refine blk_put (cs := #[.int .i64 t447, .int .i64 0, .int .i64 0, .bool false]) ?_ 1 _ rfl; (with_reducible repeat (first | refine bkN ?_ _ | refine bkD ?_ | refine bkA ?_ _)); refine blk_put (cs := #[.int .i64 0, .int .i64 0, .int .i64 0, .bool false]) ?_ 0 _ rfl; (with_reducible repeat (first | refine bkN ?_ _ | refine bkD ?_ | refine bkA ?_ _)); exact BK451.out) hb); have n3_ := Zz.mk (bwP (by repeat (first | (with_reducible first | exact HB.out | apply bwA | apply pwN | apply bw1 | refine bwS ?_ GE451.out) | exact HB.out)) hb); clear HO446; clear BK451; clear HB; have HO446 := n0_; have HO454 := n1_; have BK451 := n2_; have HB := n3_; clear n0_ n1_ n2_ n3_; (try clear hb); (try clear ho0); (try clear A4)))
  repeat (go_quiet (first | (go_at_call 35; (with_reducible refine (spec_DrawCastPut.calls k _ _ l0 t444 t447 t448 t449 t450 _ ?side1 ?side2 A3.out).mono ?_); (case side1 => repeat (first | exact HR0.out | (with_reducible refine Kd.CA ?_ _) | (with_reducible refine Kd.CN ?_ _) | (with_reducible refine Kd.CD ?_))); (case side2 => exact HC0.out); rintro e w6 ⟨v445, rfl, ho0, hb⟩; have n0_ := Zz.mk (Kd.R_lower ho0 (bwZ (by repeat (first | (with_reducible first | exact HB.out | apply bwA | apply pwN | apply bw1) | exact HB.out)))); have n1_ := Zz.mk (bwP (by repeat (first | (with_reducible first | exact HB.out | apply bwA | apply pwN | apply bw1) | exact HB.out)) hb); clear HB; have HO446 := n0_; have HB := n1_; clear n0_ n1_; (try clear hb); (try clear ho0); (try clear A3)) | ((with_reducible refine gate_dst (N := 4) rfl ?_); refine box_event ?hg (N := 4) ?hd (cs := #[.int .i64 0, .int .i64 0, .int .i64 0, .bool false]) (t := 30) ?hr ?_; (case hd => rfl); (case hg => rfl); (case hr => first | (go_simp; done) | (go_simp; rfl)); intro gb451 hg w7 hbox hb; have n0_ := Zz.mk (Kd.R_below (by (with_reducible repeat (first | apply Kd.RA | apply Kd.RN | apply Kd.RD)); exact HO446.out) hb); have n1_ := Zz.mk (bwP (by repeat (first | (with_reducible first | exact HB.out | apply bwA | apply pwN | apply bw1) | exact HB.out)) hb); have n2_ := Zz.mk (hbox); have n3_ := Zz.mk ((by rw [hg]; exact (bwZ (by repeat (first | (with_reducible first | exact HB.out | apply bwA | apply pwN | apply bw1) | exact HB.out))) : w.heap.size ≤ gb451)); have n4_ := Zz.mk ((by rw [hg]; exact (bwZ (by repeat (first | (with_reducible first | exact HB.out | apply bwA | apply pwN | apply bw1) | exact HB.out))) : w.heap.size ≤ gb451)); clear HO446; clear HB; have HO446 := n0_; have HB := n1_; have BK451 := n2_; have GW451 := n3_; have GE451 := n4_; clear n0_ n1_ n2_ n3_ n4_; clear hb hbox hg; have hcz8_0 : w7.cell? ⟨gb451, 0, none⟩ = some (.int .i64 0) := (bkC BK451.out 0).trans rfl; have hcz8_1 : w7.cell? ⟨gb451, 1, none⟩ = some (.int .i64 0) := (bkC BK451.out 1).trans rfl; have hcz8_2 : w7.cell? ⟨gb451, 2, none⟩ = some (.int .i64 0) := (bkC BK451.out 2).trans rfl; have hcz8_3 : w7.cell? ⟨gb451, 3, none⟩ = some (.bool false) := (bkC BK451.out 3).trans rfl; have hfz8_0 := bkF BK451.out 0; have hfz8_1 := bkF BK451.out 1; have hfz8_2 := bkF BK451.out 2; have hfz8_3 := bkF BK451.out 3; obtain ⟨Ao9, co9, eo9⟩ := Kd.R_slice HO446.out; subst eo9) | (go_at_call 32; (with_reducible refine (impl_CastPut.calls k _ _ t444 t447 t448 t449 t450 t452 _ ?side1 ?side2 A4.out).mono ?_); (case side1 => refine (Kd.R_reads' (e := 57) (base := w.heap.size) (ok := fun k_ => True) (n := t444.length) (c := co9) ?_).2.2; exact (by (with_reducible repeat (first | apply Kd.RA | apply Kd.RN | apply Kd.RD)); exact (Kd.R_mono (Kd.R_far (p := ⟨gb451, 3, none⟩) (Kd.R_far (p := ⟨gb451, 2, none⟩) (Kd.R_far (p := ⟨gb451, 1, none⟩) (Kd.R_far (p := ⟨gb451, 0, none⟩) (Kd.R_types HO446.out BK451.out (by decide)) (fun _ hk => hk.2) (.int .i64 t447)) (fun _ hk => hk.2) (.int .i64 t448)) (fun _ hk => hk.2) (.int .i64 t449)) (fun _ hk => hk.2) (.bool t450)) (fun _ h_ => h_.1)))); (case side2 => exact (Kd.R_reads' HO446.out).2.1); rintro e w10 ⟨v453, rfl, ho0, hb⟩; have n0_ := Zz.mk (Kd.R_elder' (by (with_reducible repeat (first | apply Kd.RA | apply Kd.RN | apply Kd.RD)); exact (Kd.R_mono (Kd.R_far (p := ⟨gb451, 3, none⟩) (Kd.R_far (p := ⟨gb451, 2, none⟩) (Kd.R_far (p := ⟨gb451, 1, none⟩) (Kd.R_far (p := ⟨gb451, 0, none⟩) (Kd.R_types HO446.out BK451.out (by decide)) (fun _ hk => hk.2) (.int .i64 t447)) (fun _ hk => hk.2) (.int .i64 t448)) (fun _ hk => hk.2) (.int .i64 t449)) (fun _ hk => hk.2) (.bool t450)) (fun _ h_ => h_.1))) (Kd.R_base ho0) hb); have n1_ := Zz.mk (Kd.R_lower (Kd.R_new' ho0 (Kd.R_lt (by (with_reducible repeat (first | apply Kd.RA | apply Kd.RN | apply Kd.RD)); exact (Kd.R_mono (Kd.R_far (p := ⟨gb451, 3, none⟩) (Kd.R_far (p := ⟨gb451, 2, none⟩) (Kd.R_far (p := ⟨gb451, 1, none⟩) (Kd.R_far (p := ⟨gb451, 0, none⟩) (Kd.R_types HO446.out BK451.out (by decide)) (fun _ hk => hk.2) (.int .i64 t447)) (fun _ hk => hk.2) (.int .i64 t448)) (fun _ hk => hk.2) (.int .i64 t449)) (fun _ hk => hk.2) (.bool t450)) (fun _ h_ => h_.1))))) (bwZ (by repeat (first | (with_reducible first | exact HB.out | apply bwA | apply pwN | apply bw1 | refine bwS ?_ GE451.out) | exact HB.out)))); have n2_ := Zz.mk (bkB (g := gb451) (o := .cells #[.int .i64 t447, .int .i64 t448, .int .i64 t449, .bool t450] 30 (0, 0)) (by (with_reducible repeat (first | refine bkN ?_ _ | refine bkD ?_ | refine bkA ?_ _)); refine blk_put (cs := #[.int .i64 t447, .int .i64 t448, .int .i64 t449, .bool false]) ?_ 3 _ rfl; (with_reducible repeat (first | refine bkN ?_ _ | refine bkD ?_ | refine bkA ?_ _)); refine blk_put (cs := #[.int .i64 t447, .int .i64 t448, .int .i64 0, .bool false]) ?_ 2 _ rfl; (with_reducible repeat (first | refine bkN ?_ _ | refine bkD ?_ | refine bkA ?_ _)); refine blk_put (cs := #[.int .i64 t447, .int .i64 0, .int .i64 0, .bool false]) ?_ 1 _ rfl; (with_reducible repeat (first | refine bkN ?_ _ | refine bkD ?_ | refine bkA ?_ _)); refine blk_put (cs := #[.int .i64 0, .int .i64 0, .int .i64 0, .bool false]) ?_ 0 _ rfl; (with_reducible repeat (first | refine bkN ?_ _ | refine bkD ?_ | refine bkA ?_ _)); exact BK451.out) hb); have n3_ := Zz.mk (bwP (by repeat (first | (with_reducible first | exact HB.out | apply bwA | apply pwN | apply bw1 | refine bwS ?_ GE451.out) | exact HB.out)) hb); clear HO446; clear BK451; clear HB; have HO446 := n0_; have HO454 := n1_; have BK451 := n2_; have HB := n3_; clear n0_ n1_ n2_ n3_; (try clear hb); (try clear ho0); (try clear A4))); go_upto_region 5 with (first | (go_at_call 35; (with_reducible refine (spec_DrawCastPut.calls k _ _ l0 t444 t447 t448 t449 t450 _ ?side1 ?side2 A3.out).mono ?_); (case side1 => repeat (first | exact HR0.out | (with_reducible refine Kd.CA ?_ _) | (with_reducible refine Kd.CN ?_ _) | (with_reducible refine Kd.CD ?_))); (case side2 => exact HC0.out); rintro e w6 ⟨v445, rfl, ho0, hb⟩; have n0_ := Zz.mk (Kd.R_lower ho0 (bwZ (by repeat (first | (with_reducible first | exact HB.out | apply bwA | apply pwN | apply bw1) | exact HB.out)))); have n1_ := Zz.mk (bwP (by repeat (first | (with_reducible first | exact HB.out | apply bwA | apply pwN | apply bw1) | exact HB.out)) hb); clear HB; have HO446 := n0_; have HB := n1_; clear n0_ n1_; (try clear hb); (try clear ho0); (try clear A3)) | ((with_reducible refine gate_dst (N := 4) rfl ?_); refine box_event ?hg (N := 4) ?hd (cs := #[.int .i64 0, .int .i64 0, .int .i64 0, .bool false]) (t := 30) ?hr ?_; (case hd => rfl); (case hg => rfl); (case hr => first | (go_simp; done) | (go_simp; rfl)); intro gb451 hg w7 hbox hb; have n0_ := Zz.mk (Kd.R_below (by (with_reducible repeat (first | apply Kd.RA | apply Kd.RN | apply Kd.RD)); exact HO446.out) hb); have n1_ := Zz.mk (bwP (by repeat (first | (with_reducible first | exact HB.out | apply bwA | apply pwN | apply bw1) | exact HB.out)) hb); have n2_ := Zz.mk (hbox); have n3_ := Zz.mk ((by rw [hg]; exact (bwZ (by repeat (first | (with_reducible first | exact HB.out | apply bwA | apply pwN | apply bw1) | exact HB.out))) : w.heap.size ≤ gb451)); have n4_ := Zz.mk ((by rw [hg]; exact (bwZ (by repeat (first | (with_reducible first | exact HB.out | apply bwA | apply pwN | apply bw1) | exact HB.out))) : w.heap.size ≤ gb451)); clear HO446; clear HB; have HO446 := n0_; have HB := n1_; have BK451 := n2_; have GW451 := n3_; have GE451 := n4_; clear n0_ n1_ n2_ n3_ n4_; clear hb hbox hg; have hcz8_0 : w7.cell? ⟨gb451, 0, none⟩ = some (.int .i64 0) := (bkC BK451.out 0).trans rfl; have hcz8_1 : w7.cell? ⟨gb451, 1, none⟩ = some (.int .i64 0) := (bkC BK451.out 1).trans rfl; have hcz8_2 : w7.cell? ⟨gb451, 2, none⟩ = some (.int .i64 0) := (bkC BK451.out 2).trans rfl; have hcz8_3 : w7.cell? ⟨gb451, 3, none⟩ = some (.bool false) := (bkC BK451.out 3).trans rfl; have hfz8_0 := bkF BK451.out 0; have hfz8_1 := bkF BK451.out 1; have hfz8_2 := bkF BK451.out 2; have hfz8_3 := bkF BK451.out 3; obtain ⟨Ao9, co9, eo9⟩ := Kd.R_slice HO446.out; subst eo9) | (go_at_call 32; (with_reducible refine (impl_CastPut.calls k _ _ t444 t447 t448 t449 t450 t452 _ ?side1 ?side2 A4.out).mono ?_); (case side1 => refine (Kd.R_reads' (e := 57) (base := w.heap.size) (ok := fun k_ => True) (n := t444.length) (c := co9) ?_).2.2; exact (by (with_reducible repeat (first | apply Kd.RA | apply Kd.RN | apply Kd.RD)); exact (Kd.R_mono (Kd.R_far (p := ⟨gb451, 3, none⟩) (Kd.R_far (p := ⟨gb451, 2, none⟩) (Kd.R_far (p := ⟨gb451, 1, none⟩) (Kd.R_far (p := ⟨gb451, 0, none⟩) (Kd.R_types HO446.out BK451.out (by decide)) (fun _ hk => hk.2) (.int .i64 t447)) (fun _ hk => hk.2) (.int .i64 t448)) (fun _ hk => hk.2) (.int .i64 t449)) (fun _ hk => hk.2) (.bool t450)) (fun _ h_ => h_.1)))); (case side2 => exact (Kd.R_reads' HO446.out).2.1); rintro e w10 ⟨v453, rfl, ho0, hb⟩; have n0_ := Zz.mk (Kd.R_elder' (by (with_reducible repeat (first | apply Kd.RA | apply Kd.RN | apply Kd.RD)); exact (Kd.R_mono (Kd.R_far (p := ⟨gb451, 3, none⟩) (Kd.R_far (p := ⟨gb451, 2, none⟩) (Kd.R_far (p := ⟨gb451, 1, none⟩) (Kd.R_far (p := ⟨gb451, 0, none⟩) (Kd.R_types HO446.out BK451.out (by decide)) (fun _ hk => hk.2) (.int .i64 t447)) (fun _ hk => hk.2) (.int .i64 t448)) (fun _ hk => hk.2) (.int .i64 t449)) (fun _ hk => hk.2) (.bool t450)) (fun _ h_ => h_.1))) (Kd.R_base ho0) hb); have n1_ := Zz.mk (Kd.R_lower (Kd.R_new' ho0 (Kd.R_lt (by (with_reducible repeat (first | apply Kd.RA | apply Kd.RN | apply Kd.RD)); exact (Kd.R_mono (Kd.R_far (p := ⟨gb451, 3, none⟩) (Kd.R_far (p := ⟨gb451, 2, none⟩) (Kd.R_far (p := ⟨gb451, 1, none⟩) (Kd.R_far (p := ⟨gb451, 0, none⟩) (Kd.R_types HO446.out BK451.out (by decide)) (fun _ hk => hk.2) (.int .i64 t447)) (fun _ hk => hk.2) (.int .i64 t448)) (fun _ hk => hk.2) (.int .i64 t449)) (fun _ hk => hk.2) (.bool t450)) (fun _ h_ => h_.1))))) (bwZ (by repeat (first | (with_reducible first | exact HB.out | apply bwA | apply pwN | apply bw1 | refine bwS ?_ GE451.out) | exact HB.out)))); have n2_ := Zz.mk (bkB (g := gb451) (o := .cells #[.int .i64 t447, .int .i64 t448, .int .i64 t449, .bool t450] 30 (0, 0)) (by (with_reducible repeat (first | refine bkN ?_ _ | refine bkD ?_ | refine bkA ?_ _)); refine blk_put (cs := #[.int .i64 t447, .int .i64 t448, .int .i64 t449, .bool false]) ?_ 3 _ rfl; (with_reducible repeat (first | refine bkN ?_ _ | refine bkD ?_ | refine bkA ?_ _)); refine blk_put (cs := #[.int .i64 t447, .int .i64 t448, .int .i64 0, .bool false]) ?_ 2 _ rfl; (with_reducible repeat (first | refine bkN ?_ _ | refine bkD ?_ | refine bkA ?_ _)); refine blk_put (cs := #[.int .i64 t447, .int .i64 0, .int .i64 0, .bool false]) ?_ 1 _ rfl; (with_reducible repeat (first | refine bkN ?_ _ | refine bkD ?_ | refine bkA ?_ _)); refine blk_put (cs := #[.int .i64 0, .int .i64 0, .int .i64 0, .bool false]) ?_ 0 _ rfl; (with_reducible repeat (first | refine bkN ?_ _ | refine bkD ?_ | refine bkA ?_ _)); exact BK451.out) hb); have n3_ := Zz.mk (bwP (by repeat (first | (with_reducible first | exact HB.out | apply bwA | apply pwN | apply bw1 | refine bwS ?_ GE451.out) | exact HB.out)) hb); clear HO446; clear BK451; clear HB; have HO446 := n0_; have HO454 := n1_; have BK451 := n2_; have HB := n3_; clear n0_ n1_ n2_ n3_; (try clear hb); (try clear ho0); (try clear A4))))
  (try simp only [Act.put, List.setIfInBounds_toArray, List.set_cons_zero, List.set_cons_succ])
  go_cut [32] (fun v32 wc => ∃ (kq : Nat) (x32_4 : Bool), v32 = .bool x32_4 ∧ Zz (laws_FnCastKeep.j0 kq t444 t452 x32_4 t447 t448 t449 t450 = some r) ∧ Zz (kq ≤ k) ∧ Zz (Kd.R k57 57 wc w.heap.size (fun k_ => some k_ ≠ (v453 : Value).ownBlock) (.slice Ao9 t444.length co9) t444) ∧ Zz (Kd.R k57 57 wc w.heap.size (fun k_ => some k_ ≠ ((.slice Ao9 t444.length co9) : Value).ownBlock) v453 t452) ∧ Zz (wc.heap[gb451]? = some (.cells #[.int .i64 t447, .int .i64 t448, .int .i64 t449, .bool t450] 30 (0, 0))) ∧ Zz (Below w.heap.size w wc))
  case first =>
   have H := HC5.out; clear HC5; replace H := Option.bind_eq_some_iff.mp H; obtain ⟨t455, A110, H⟩ := H; replace H : ((laws_lhItems.f k t452 t455).bind fun t458 => (if t458 = true then ((impl_CastOk.f k t444).bind fun t459 => ((spec_CastOk.f k t444).bind fun t460 => (laws_FnCastKeep.j0 k t444 t452 (t459 != t460) t447 t448 t449 t450))) else (laws_FnCastKeep.j0 k t444 t452 true t447 t448 t449 t450))) = some r := H; have A11 := Zz.mk A110; clear A110; replace H := Option.bind_eq_some_iff.mp H; obtain ⟨t458, A120, H⟩ := H; replace H : (if t458 = true then ((impl_CastOk.f k t444).bind fun t459 => ((spec_CastOk.f k t444).bind fun t460 => (laws_FnCastKeep.j0 k t444 t452 (t459 != t460) t447 t448 t449 t450))) else (laws_FnCastKeep.j0 k t444 t452 true t447 t448 t449 t450)) = some r := H; have A12 := Zz.mk A120; clear A120; by_cases c13 : t458 = true
   ·subst c13
    have H1 : ((impl_CastOk.f k t444).bind fun t459 => ((spec_CastOk.f k t444).bind fun t460 => (laws_FnCastKeep.j0 k t444 t452 (t459 != t460) t447 t448 t449 t450))) = some r := by rw [if_pos rfl] at H; exact H
    clear H; have H := H1; clear H1; replace H := Option.bind_eq_some_iff.mp H; obtain ⟨t459, A140, H⟩ := H; replace H : ((spec_CastOk.f k t444).bind fun t460 => (laws_FnCastKeep.j0 k t444 t452 (t459 != t460) t447 t448 t449 t450)) = some r := H; have A14 := Zz.mk A140; clear A140; replace H := Option.bind_eq_some_iff.mp H; obtain ⟨t460, A150, H⟩ := H; replace H : (laws_FnCastKeep.j0 k t444 t452 (t459 != t460) t447 t448 t449 t450) = some r := H; have A15 := Zz.mk A150; clear A150; have H' := Zz.mk H; clear H; have hcz16_0 : w10.cell? ⟨gb451, 0, none⟩ = some (.int .i64 t447) := (bkC BK451.out 0).trans rfl; have hcz16_1 : w10.cell? ⟨gb451, 1, none⟩ = some (.int .i64 t448) := (bkC BK451.out 1).trans rfl; have hcz16_2 : w10.cell? ⟨gb451, 2, none⟩ = some (.int .i64 t449) := (bkC BK451.out 2).trans rfl; have hcz16_3 : w10.cell? ⟨gb451, 3, none⟩ = some (.bool t450) := (bkC BK451.out 3).trans rfl; have hfz16_0 := bkF BK451.out 0; have hfz16_1 := bkF BK451.out 1; have hfz16_2 := bkF BK451.out 2; have hfz16_3 := bkF BK451.out 3; go_wp2_with (first | (go_at_call 31; (with_reducible refine (spec_CastPut.calls k _ _ t444 t447 t448 t449 t450 t455 _ ?side1 ?side2 A11.out).mono ?_); (case side1 => repeat (first | exact (Kd.R_reads' HO446.out).2.2 | (with_reducible refine Kd.CA ?_ _) | (with_reducible refine Kd.CN ?_ _) | (with_reducible refine Kd.CD ?_))); (case side2 => exact (Kd.R_reads' HO446.out).2.1); rintro e w17 ⟨v456, rfl, ho0, hb⟩; have n0_ := Zz.mk (Kd.R_elder' (by (with_reducible repeat (first | apply Kd.RA | apply Kd.RN | apply Kd.RD)); exact HO446.out) (Kd.R_base ho0) hb); have n1_ := Zz.mk (Kd.R_elder' (by (with_reducible repeat (first | apply Kd.RA | apply Kd.RN | apply Kd.RD)); exact HO454.out) (Kd.R_base ho0) hb); have n2_ := Zz.mk (Kd.R_lower (Kd.R_new' (Kd.R_new' ho0 (Kd.R_lt (by (with_reducible repeat (first | apply Kd.RA | apply Kd.RN | apply Kd.RD)); exact HO446.out))) (Kd.R_lt (by (with_reducible repeat (first | apply Kd.RA | apply Kd.RN | apply Kd.RD)); exact HO454.out))) (bwZ (by repeat (first | (with_reducible first | exact HB.out | apply bwA | apply pwN | apply bw1 | refine bwS ?_ GE451.out) | exact HB.out)))); have n3_ := Zz.mk (bkB (g := gb451) (o := .cells #[.int .i64 t447, .int .i64 t448, .int .i64 t449, .bool t450] 30 (0, 0)) (by (with_reducible repeat (first | refine bkN ?_ _ | refine bkD ?_ | refine bkA ?_ _)); exact BK451.out) hb); have n4_ := Zz.mk (bwP (by repeat (first | (with_reducible first | exact HB.out | apply bwA | apply pwN | apply bw1 | refine bwS ?_ GE451.out) | exact HB.out)) hb); clear HO446; clear HO454; clear BK451; clear HB; have HO446 := n0_; have HO454 := n1_; have HO457 := n2_; have BK451 := n3_; have HB := n4_; clear n0_ n1_ n2_ n3_ n4_; (try clear hb); (try clear ho0); (try clear A11); obtain ⟨Ao18, co18, eo18⟩ := Kd.R_slice HO454.out; subst eo18; obtain ⟨Ao19, co19, eo19⟩ := Kd.R_slice HO457.out; subst eo19) | (go_at_call 36; (with_reducible refine (laws_lhItems.calls k _ _ t452 _ _ t455 true _ ?side1 ?side2 ?side3 ?side4 A12.out).mono ?_); (case side1 => repeat (first | exact (Kd.R_reads' HO454.out).2.2 | (with_reducible refine Kd.CA ?_ _) | (with_reducible refine Kd.CN ?_ _) | (with_reducible refine Kd.CD ?_))); (case side2 => exact (Kd.R_reads' HO454.out).2.1); (case side3 => repeat (first | exact (Kd.R_reads' HO457.out).2.2 | (with_reducible refine Kd.CA ?_ _) | (with_reducible refine Kd.CN ?_ _) | (with_reducible refine Kd.CD ?_))); (case side4 => exact (Kd.R_reads' HO457.out).2.1); rintro e w' ⟨rfl, ⟨nd, rfl⟩⟩; (try clear A12); (try first | exact ⟨rfl, _, World.drewN_drewN _ _ _⟩ | exact ⟨rfl, _, Eq.trans (World.drewN_drewN _ _ _) (congrArg (World.drewN _) (Nat.add_assoc _ _ _))⟩)) | (go_at_call 29; (with_reducible refine (impl_CastOk.calls k _ _ t444 t459 _ ?side1 ?side2 A14.out).mono ?_); (case side1 => repeat (first | exact (Kd.R_reads' HO446.out).2.2 | (with_reducible refine Kd.CA ?_ _) | (with_reducible refine Kd.CN ?_ _) | (with_reducible refine Kd.CD ?_))); (case side2 => exact (Kd.R_reads' HO446.out).2.1); rintro e w20 ⟨rfl, hb⟩; have n0_ := Zz.mk (Kd.R_below (by (with_reducible repeat (first | apply Kd.RA | apply Kd.RN | apply Kd.RD)); exact HO446.out) hb); have n1_ := Zz.mk (Kd.R_below (by (with_reducible repeat (first | apply Kd.RA | apply Kd.RN | apply Kd.RD)); exact HO454.out) hb); have n2_ := Zz.mk (Kd.R_below (by (with_reducible repeat (first | apply Kd.RA | apply Kd.RN | apply Kd.RD)); exact HO457.out) hb); have n3_ := Zz.mk (bkB (g := gb451) (o := .cells #[.int .i64 t447, .int .i64 t448, .int .i64 t449, .bool t450] 30 (0, 0)) (by (with_reducible repeat (first | refine bkN ?_ _ | refine bkD ?_ | refine bkA ?_ _)); exact BK451.out) hb); have n4_ := Zz.mk (bwP (by repeat (first | (with_reducible first | exact HB.out | apply bwA | apply pwN | apply bw1 | refine bwS ?_ GE451.out) | exact HB.out)) hb); clear HO446; clear HO454; clear HO457; clear BK451; clear HB; have HO446 := n0_; have HO454 := n1_; have HO457 := n2_; have BK451 := n3_; have HB := n4_; clear n0_ n1_ n2_ n3_ n4_; (try clear hb); (try clear A14)) | (go_at_call 27; (with_reducible refine (spec_CastOk.calls k _ _ t444 t460 _ ?side1 ?side2 A15.out).mono ?_); (case side1 => repeat (first | exact (Kd.R_reads' HO446.out).2.2 | (with_reducible refine Kd.CA ?_ _) | (with_reducible refine Kd.CN ?_ _) | (with_reducible refine Kd.CD ?_))); (case side2 => exact (Kd.R_reads' HO446.out).2.1); rintro e w21 ⟨rfl, hb⟩; have n0_ := Zz.mk (Kd.R_below (by (with_reducible repeat (first | apply Kd.RA | apply Kd.RN | apply Kd.RD)); exact HO446.out) hb); have n1_ := Zz.mk (Kd.R_below (by (with_reducible repeat (first | apply Kd.RA | apply Kd.RN | apply Kd.RD)); exact HO454.out) hb); have n2_ := Zz.mk (Kd.R_below (by (with_reducible repeat (first | apply Kd.RA | apply Kd.RN | apply Kd.RD)); exact HO457.out) hb); have n3_ := Zz.mk (bkB (g := gb451) (o := .cells #[.int .i64 t447, .int .i64 t448, .int .i64 t449, .bool t450] 30 (0, 0)) (by (with_reducible repeat (first | refine bkN ?_ _ | refine bkD ?_ | refine bkA ?_ _)); exact BK451.out) hb); have n4_ := Zz.mk (bwP (by repeat (first | (with_reducible first | exact HB.out | apply bwA | apply pwN | apply bw1 | refine bwS ?_ GE451.out) | exact HB.out)) hb); clear HO446; clear HO454; clear HO457; clear BK451; clear HB; have HO446 := n0_; have HO454 := n1_; have HO457 := n2_; have BK451 := n3_; have HB := n4_; clear n0_ n1_ n2_ n3_ n4_; (try clear hb); (try clear A15)))
    repeat (go_quiet (first | (go_at_call 31; (with_reducible refine (spec_CastPut.calls k _ _ t444 t447 t448 t449 t450 t455 _ ?side1 ?side2 A11.out).mono ?_); (case side1 => repeat (first | exact (Kd.R_reads' HO446.out).2.2 | (with_reducible refine Kd.CA ?_ _) | (with_reducible refine Kd.CN ?_ _) | (with_reducible refine Kd.CD ?_))); (case side2 => exact (Kd.R_reads' HO446.out).2.1); rintro e w17 ⟨v456, rfl, ho0, hb⟩; have n0_ := Zz.mk (Kd.R_elder' (by (with_reducible repeat (first | apply Kd.RA | apply Kd.RN | apply Kd.RD)); exact HO446.out) (Kd.R_base ho0) hb); have n1_ := Zz.mk (Kd.R_elder' (by (with_reducible repeat (first | apply Kd.RA | apply Kd.RN | apply Kd.RD)); exact HO454.out) (Kd.R_base ho0) hb); have n2_ := Zz.mk (Kd.R_lower (Kd.R_new' (Kd.R_new' ho0 (Kd.R_lt (by (with_reducible repeat (first | apply Kd.RA | apply Kd.RN | apply Kd.RD)); exact HO446.out))) (Kd.R_lt (by (with_reducible repeat (first | apply Kd.RA | apply Kd.RN | apply Kd.RD)); exact HO454.out))) (bwZ (by repeat (first | (with_reducible first | exact HB.out | apply bwA | apply pwN | apply bw1 | refine bwS ?_ GE451.out) | exact HB.out)))); have n3_ := Zz.mk (bkB (g := gb451) (o := .cells #[.int .i64 t447, .int .i64 t448, .int .i64 t449, .bool t450] 30 (0, 0)) (by (with_reducible repeat (first | refine bkN ?_ _ | refine bkD ?_ | refine bkA ?_ _)); exact BK451.out) hb); have n4_ := Zz.mk (bwP (by repeat (first | (with_reducible first | exact HB.out | apply bwA | apply pwN | apply bw1 | refine bwS ?_ GE451.out) | exact HB.out)) hb); clear HO446; clear HO454; clear BK451; clear HB; have HO446 := n0_; have HO454 := n1_; have HO457 := n2_; have BK451 := n3_; have HB := n4_; clear n0_ n1_ n2_ n3_ n4_; (try clear hb); (try clear ho0); (try clear A11); obtain ⟨Ao18, co18, eo18⟩ := Kd.R_slice HO454.out; subst eo18; obtain ⟨Ao19, co19, eo19⟩ := Kd.R_slice HO457.out; subst eo19) | (go_at_call 36; (with_reducible refine (laws_lhItems.calls k _ _ t452 _ _ t455 true _ ?side1 ?side2 ?side3 ?side4 A12.out).mono ?_); (case side1 => repeat (first | exact (Kd.R_reads' HO454.out).2.2 | (with_reducible refine Kd.CA ?_ _) | (with_reducible refine Kd.CN ?_ _) | (with_reducible refine Kd.CD ?_))); (case side2 => exact (Kd.R_reads' HO454.out).2.1); (case side3 => repeat (first | exact (Kd.R_reads' HO457.out).2.2 | (with_reducible refine Kd.CA ?_ _) | (with_reducible refine Kd.CN ?_ _) | (with_reducible refine Kd.CD ?_))); (case side4 => exact (Kd.R_reads' HO457.out).2.1); rintro e w' ⟨rfl, ⟨nd, rfl⟩⟩; (try clear A12); (try first | exact ⟨rfl, _, World.drewN_drewN _ _ _⟩ | exact ⟨rfl, _, Eq.trans (World.drewN_drewN _ _ _) (congrArg (World.drewN _) (Nat.add_assoc _ _ _))⟩)) | (go_at_call 29; (with_reducible refine (impl_CastOk.calls k _ _ t444 t459 _ ?side1 ?side2 A14.out).mono ?_); (case side1 => repeat (first | exact (Kd.R_reads' HO446.out).2.2 | (with_reducible refine Kd.CA ?_ _) | (with_reducible refine Kd.CN ?_ _) | (with_reducible refine Kd.CD ?_))); (case side2 => exact (Kd.R_reads' HO446.out).2.1); rintro e w20 ⟨rfl, hb⟩; have n0_ := Zz.mk (Kd.R_below (by (with_reducible repeat (first | apply Kd.RA | apply Kd.RN | apply Kd.RD)); exact HO446.out) hb); have n1_ := Zz.mk (Kd.R_below (by (with_reducible repeat (first | apply Kd.RA | apply Kd.RN | apply Kd.RD)); exact HO454.out) hb); have n2_ := Zz.mk (Kd.R_below (by (with_reducible repeat (first | apply Kd.RA | apply Kd.RN | apply Kd.RD)); exact HO457.out) hb); have n3_ := Zz.mk (bkB (g := gb451) (o := .cells #[.int .i64 t447, .int .i64 t448, .int .i64 t449, .bool t450] 30 (0, 0)) (by (with_reducible repeat (first | refine bkN ?_ _ | refine bkD ?_ | refine bkA ?_ _)); exact BK451.out) hb); have n4_ := Zz.mk (bwP (by repeat (first | (with_reducible first | exact HB.out | apply bwA | apply pwN | apply bw1 | refine bwS ?_ GE451.out) | exact HB.out)) hb); clear HO446; clear HO454; clear HO457; clear BK451; clear HB; have HO446 := n0_; have HO454 := n1_; have HO457 := n2_; have BK451 := n3_; have HB := n4_; clear n0_ n1_ n2_ n3_ n4_; (try clear hb); (try clear A14)) | (go_at_call 27; (with_reducible refine (spec_CastOk.calls k _ _ t444 t460 _ ?side1 ?side2 A15.out).mono ?_); (case side1 => repeat (first | exact (Kd.R_reads' HO446.out).2.2 | (with_reducible refine Kd.CA ?_ _) | (with_reducible refine Kd.CN ?_ _) | (with_reducible refine Kd.CD ?_))); (case side2 => exact (Kd.R_reads' HO446.out).2.1); rintro e w21 ⟨rfl, hb⟩; have n0_ := Zz.mk (Kd.R_below (by (with_reducible repeat (first | apply Kd.RA | apply Kd.RN | apply Kd.RD)); exact HO446.out) hb); have n1_ := Zz.mk (Kd.R_below (by (with_reducible repeat (first | apply Kd.RA | apply Kd.RN | apply Kd.RD)); exact HO454.out) hb); have n2_ := Zz.mk (Kd.R_below (by (with_reducible repeat (first | apply Kd.RA | apply Kd.RN | apply Kd.RD)); exact HO457.out) hb); have n3_ := Zz.mk (bkB (g := gb451) (o := .cells #[.int .i64 t447, .int .i64 t448, .int .i64 t449, .bool t450] 30 (0, 0)) (by (with_reducible repeat (first | refine bkN ?_ _ | refine bkD ?_ | refine bkA ?_ _)); exact BK451.out) hb); have n4_ := Zz.mk (bwP (by repeat (first | (with_reducible first | exact HB.out | apply bwA | apply pwN | apply bw1 | refine bwS ?_ GE451.out) | exact HB.out)) hb); clear HO446; clear HO454; clear HO457; clear BK451; clear HB; have HO446 := n0_; have HO454 := n1_; have HO457 := n2_; have BK451 := n3_; have HB := n4_; clear n0_ n1_ n2_ n3_ n4_; (try clear hb); (try clear A15))); try go_wp2_with (first | (go_at_call 31; (with_reducible refine (spec_CastPut.calls k _ _ t444 t447 t448 t449 t450 t455 _ ?side1 ?side2 A11.out).mono ?_); (case side1 => repeat (first | exact (Kd.R_reads' HO446.out).2.2 | (with_reducible refine Kd.CA ?_ _) | (with_reducible refine Kd.CN ?_ _) | (with_reducible refine Kd.CD ?_))); (case side2 => exact (Kd.R_reads' HO446.out).2.1); rintro e w17 ⟨v456, rfl, ho0, hb⟩; have n0_ := Zz.mk (Kd.R_elder' (by (with_reducible repeat (first | apply Kd.RA | apply Kd.RN | apply Kd.RD)); exact HO446.out) (Kd.R_base ho0) hb); have n1_ := Zz.mk (Kd.R_elder' (by (with_reducible repeat (first | apply Kd.RA | apply Kd.RN | apply Kd.RD)); exact HO454.out) (Kd.R_base ho0) hb); have n2_ := Zz.mk (Kd.R_lower (Kd.R_new' (Kd.R_new' ho0 (Kd.R_lt (by (with_reducible repeat (first | apply Kd.RA | apply Kd.RN | apply Kd.RD)); exact HO446.out))) (Kd.R_lt (by (with_reducible repeat (first | apply Kd.RA | apply Kd.RN | apply Kd.RD)); exact HO454.out))) (bwZ (by repeat (first | (with_reducible first | exact HB.out | apply bwA | apply pwN | apply bw1 | refine bwS ?_ GE451.out) | exact HB.out)))); have n3_ := Zz.mk (bkB (g := gb451) (o := .cells #[.int .i64 t447, .int .i64 t448, .int .i64 t449, .bool t450] 30 (0, 0)) (by (with_reducible repeat (first | refine bkN ?_ _ | refine bkD ?_ | refine bkA ?_ _)); exact BK451.out) hb); have n4_ := Zz.mk (bwP (by repeat (first | (with_reducible first | exact HB.out | apply bwA | apply pwN | apply bw1 | refine bwS ?_ GE451.out) | exact HB.out)) hb); clear HO446; clear HO454; clear BK451; clear HB; have HO446 := n0_; have HO454 := n1_; have HO457 := n2_; have BK451 := n3_; have HB := n4_; clear n0_ n1_ n2_ n3_ n4_; (try clear hb); (try clear ho0); (try clear A11); obtain ⟨Ao18, co18, eo18⟩ := Kd.R_slice HO454.out; subst eo18; obtain ⟨Ao19, co19, eo19⟩ := Kd.R_slice HO457.out; subst eo19) | (go_at_call 36; (with_reducible refine (laws_lhItems.calls k _ _ t452 _ _ t455 true _ ?side1 ?side2 ?side3 ?side4 A12.out).mono ?_); (case side1 => repeat (first | exact (Kd.R_reads' HO454.out).2.2 | (with_reducible refine Kd.CA ?_ _) | (with_reducible refine Kd.CN ?_ _) | (with_reducible refine Kd.CD ?_))); (case side2 => exact (Kd.R_reads' HO454.out).2.1); (case side3 => repeat (first | exact (Kd.R_reads' HO457.out).2.2 | (with_reducible refine Kd.CA ?_ _) | (with_reducible refine Kd.CN ?_ _) | (with_reducible refine Kd.CD ?_))); (case side4 => exact (Kd.R_reads' HO457.out).2.1); rintro e w' ⟨rfl, ⟨nd, rfl⟩⟩; (try clear A12); (try first | exact ⟨rfl, _, World.drewN_drewN _ _ _⟩ | exact ⟨rfl, _, Eq.trans (World.drewN_drewN _ _ _) (congrArg (World.drewN _) (Nat.add_assoc _ _ _))⟩)) | (go_at_call 29; (with_reducible refine (impl_CastOk.calls k _ _ t444 t459 _ ?side1 ?side2 A14.out).mono ?_); (case side1 => repeat (first | exact (Kd.R_reads' HO446.out).2.2 | (with_reducible refine Kd.CA ?_ _) | (with_reducible refine Kd.CN ?_ _) | (with_reducible refine Kd.CD ?_))); (case side2 => exact (Kd.R_reads' HO446.out).2.1); rintro e w20 ⟨rfl, hb⟩; have n0_ := Zz.mk (Kd.R_below (by (with_reducible repeat (first | apply Kd.RA | apply Kd.RN | apply Kd.RD)); exact HO446.out) hb); have n1_ := Zz.mk (Kd.R_below (by (with_reducible repeat (first | apply Kd.RA | apply Kd.RN | apply Kd.RD)); exact HO454.out) hb); have n2_ := Zz.mk (Kd.R_below (by (with_reducible repeat (first | apply Kd.RA | apply Kd.RN | apply Kd.RD)); exact HO457.out) hb); have n3_ := Zz.mk (bkB (g := gb451) (o := .cells #[.int .i64 t447, .int .i64 t448, .int .i64 t449, .bool t450] 30 (0, 0)) (by (with_reducible repeat (first | refine bkN ?_ _ | refine bkD ?_ | refine bkA ?_ _)); exact BK451.out) hb); have n4_ := Zz.mk (bwP (by repeat (first | (with_reducible first | exact HB.out | apply bwA | apply pwN | apply bw1 | refine bwS ?_ GE451.out) | exact HB.out)) hb); clear HO446; clear HO454; clear HO457; clear BK451; clear HB; have HO446 := n0_; have HO454 := n1_; have HO457 := n2_; have BK451 := n3_; have HB := n4_; clear n0_ n1_ n2_ n3_ n4_; (try clear hb); (try clear A14)) | (go_at_call 27; (with_reducible refine (spec_CastOk.calls k _ _ t444 t460 _ ?side1 ?side2 A15.out).mono ?_); (case side1 => repeat (first | exact (Kd.R_reads' HO446.out).2.2 | (with_reducible refine Kd.CA ?_ _) | (with_reducible refine Kd.CN ?_ _) | (with_reducible refine Kd.CD ?_))); (case side2 => exact (Kd.R_reads' HO446.out).2.1); rintro e w21 ⟨rfl, hb⟩; have n0_ := Zz.mk (Kd.R_below (by (with_reducible repeat (first | apply Kd.RA | apply Kd.RN | apply Kd.RD)); exact HO446.out) hb); have n1_ := Zz.mk (Kd.R_below (by (with_reducible repeat (first | apply Kd.RA | apply Kd.RN | apply Kd.RD)); exact HO454.out) hb); have n2_ := Zz.mk (Kd.R_below (by (with_reducible repeat (first | apply Kd.RA | apply Kd.RN | apply Kd.RD)); exact HO457.out) hb); have n3_ := Zz.mk (bkB (g := gb451) (o := .cells #[.int .i64 t447, .int .i64 t448, .int .i64 t449, .bool t450] 30 (0, 0)) (by (with_reducible repeat (first | refine bkN ?_ _ | refine bkD ?_ | refine bkA ?_ _)); exact BK451.out) hb); have n4_ := Zz.mk (bwP (by repeat (first | (with_reducible first | exact HB.out | apply bwA | apply pwN | apply bw1 | refine bwS ?_ GE451.out) | exact HB.out)) hb); clear HO446; clear HO454; clear HO457; clear BK451; clear HB; have HO446 := n0_; have HO454 := n1_; have HO457 := n2_; have BK451 := n3_; have HB := n4_; clear n0_ n1_ n2_ n3_ n4_; (try clear hb); (try clear A15))))
    go_meet
    case rel => exact ⟨_, ((t459 != t460)), (by first | rfl | (simp; done) | (simp [*]; done)), H', ⟨by first | omega | exact Nat.le_refl _⟩, ⟨by (with_reducible repeat (first | apply Kd.RA | apply Kd.RN | apply Kd.RD)); exact Kd.R_mono HO446.out (fun _ hk => hk.1.2)⟩, ⟨by (with_reducible repeat (first | apply Kd.RA | apply Kd.RN | apply Kd.RD)); exact Kd.R_mono HO454.out (fun _ hk => hk.1.2)⟩, ⟨by (with_reducible repeat (first | refine bkN ?_ _ | refine bkD ?_ | refine bkA ?_ _)); exact BK451.out⟩, ⟨by repeat (first | (with_reducible first | exact HB.out | apply bwA | apply pwN | apply bw1 | refine bwS ?_ GE451.out) | exact HB.out)⟩⟩
   ·replace c13 := Bool.eq_false_iff.mpr c13
    subst c13; have H1 : (laws_FnCastKeep.j0 k t444 t452 true t447 t448 t449 t450) = some r := by rw [if_neg (show ¬ (false = true) by decide)] at H; exact H
    clear H; have H := H1; clear H1; have H' := Zz.mk H; clear H; have hcz22_0 : w10.cell? ⟨gb451, 0, none⟩ = some (.int .i64 t447) := (bkC BK451.out 0).trans rfl; have hcz22_1 : w10.cell? ⟨gb451, 1, none⟩ = some (.int .i64 t448) := (bkC BK451.out 1).trans rfl; have hcz22_2 : w10.cell? ⟨gb451, 2, none⟩ = some (.int .i64 t449) := (bkC BK451.out 2).trans rfl; have hcz22_3 : w10.cell? ⟨gb451, 3, none⟩ = some (.bool t450) := (bkC BK451.out 3).trans rfl; have hfz22_0 := bkF BK451.out 0; have hfz22_1 := bkF BK451.out 1; have hfz22_2 := bkF BK451.out 2; have hfz22_3 := bkF BK451.out 3; go_wp2_with (first | (go_at_call 31; (with_reducible refine (spec_CastPut.calls k _ _ t444 t447 t448 t449 t450 t455 _ ?side1 ?side2 A11.out).mono ?_); (case side1 => repeat (first | exact (Kd.R_reads' HO446.out).2.2 | (with_reducible refine Kd.CA ?_ _) | (with_reducible refine Kd.CN ?_ _) | (with_reducible refine Kd.CD ?_))); (case side2 => exact (Kd.R_reads' HO446.out).2.1); rintro e w23 ⟨v456, rfl, ho0, hb⟩; have n0_ := Zz.mk (Kd.R_elder' (by (with_reducible repeat (first | apply Kd.RA | apply Kd.RN | apply Kd.RD)); exact HO446.out) (Kd.R_base ho0) hb); have n1_ := Zz.mk (Kd.R_elder' (by (with_reducible repeat (first | apply Kd.RA | apply Kd.RN | apply Kd.RD)); exact HO454.out) (Kd.R_base ho0) hb); have n2_ := Zz.mk (Kd.R_lower (Kd.R_new' (Kd.R_new' ho0 (Kd.R_lt (by (with_reducible repeat (first | apply Kd.RA | apply Kd.RN | apply Kd.RD)); exact HO446.out))) (Kd.R_lt (by (with_reducible repeat (first | apply Kd.RA | apply Kd.RN | apply Kd.RD)); exact HO454.out))) (bwZ (by repeat (first | (with_reducible first | exact HB.out | apply bwA | apply pwN | apply bw1 | refine bwS ?_ GE451.out) | exact HB.out)))); have n3_ := Zz.mk (bkB (g := gb451) (o := .cells #[.int .i64 t447, .int .i64 t448, .int .i64 t449, .bool t450] 30 (0, 0)) (by (with_reducible repeat (first | refine bkN ?_ _ | refine bkD ?_ | refine bkA ?_ _)); exact BK451.out) hb); have n4_ := Zz.mk (bwP (by repeat (first | (with_reducible first | exact HB.out | apply bwA | apply pwN | apply bw1 | refine bwS ?_ GE451.out) | exact HB.out)) hb); clear HO446; clear HO454; clear BK451; clear HB; have HO446 := n0_; have HO454 := n1_; have HO457 := n2_; have BK451 := n3_; have HB := n4_; clear n0_ n1_ n2_ n3_ n4_; (try clear hb); (try clear ho0); (try clear A11); obtain ⟨Ao24, co24, eo24⟩ := Kd.R_slice HO454.out; subst eo24; obtain ⟨Ao25, co25, eo25⟩ := Kd.R_slice HO457.out; subst eo25) | (go_at_call 36; (with_reducible refine (laws_lhItems.calls k _ _ t452 _ _ t455 false _ ?side1 ?side2 ?side3 ?side4 A12.out).mono ?_); (case side1 => repeat (first | exact (Kd.R_reads' HO454.out).2.2 | (with_reducible refine Kd.CA ?_ _) | (with_reducible refine Kd.CN ?_ _) | (with_reducible refine Kd.CD ?_))); (case side2 => exact (Kd.R_reads' HO454.out).2.1); (case side3 => repeat (first | exact (Kd.R_reads' HO457.out).2.2 | (with_reducible refine Kd.CA ?_ _) | (with_reducible refine Kd.CN ?_ _) | (with_reducible refine Kd.CD ?_))); (case side4 => exact (Kd.R_reads' HO457.out).2.1); rintro e w' ⟨rfl, ⟨nd, rfl⟩⟩; (try clear A12); (try first | exact ⟨rfl, _, World.drewN_drewN _ _ _⟩ | exact ⟨rfl, _, Eq.trans (World.drewN_drewN _ _ _) (congrArg (World.drewN _) (Nat.add_assoc _ _ _))⟩)))
    repeat (go_quiet (first | (go_at_call 31; (with_reducible refine (spec_CastPut.calls k _ _ t444 t447 t448 t449 t450 t455 _ ?side1 ?side2 A11.out).mono ?_); (case side1 => repeat (first | exact (Kd.R_reads' HO446.out).2.2 | (with_reducible refine Kd.CA ?_ _) | (with_reducible refine Kd.CN ?_ _) | (with_reducible refine Kd.CD ?_))); (case side2 => exact (Kd.R_reads' HO446.out).2.1); rintro e w23 ⟨v456, rfl, ho0, hb⟩; have n0_ := Zz.mk (Kd.R_elder' (by (with_reducible repeat (first | apply Kd.RA | apply Kd.RN | apply Kd.RD)); exact HO446.out) (Kd.R_base ho0) hb); have n1_ := Zz.mk (Kd.R_elder' (by (with_reducible repeat (first | apply Kd.RA | apply Kd.RN | apply Kd.RD)); exact HO454.out) (Kd.R_base ho0) hb); have n2_ := Zz.mk (Kd.R_lower (Kd.R_new' (Kd.R_new' ho0 (Kd.R_lt (by (with_reducible repeat (first | apply Kd.RA | apply Kd.RN | apply Kd.RD)); exact HO446.out))) (Kd.R_lt (by (with_reducible repeat (first | apply Kd.RA | apply Kd.RN | apply Kd.RD)); exact HO454.out))) (bwZ (by repeat (first | (with_reducible first | exact HB.out | apply bwA | apply pwN | apply bw1 | refine bwS ?_ GE451.out) | exact HB.out)))); have n3_ := Zz.mk (bkB (g := gb451) (o := .cells #[.int .i64 t447, .int .i64 t448, .int .i64 t449, .bool t450] 30 (0, 0)) (by (with_reducible repeat (first | refine bkN ?_ _ | refine bkD ?_ | refine bkA ?_ _)); exact BK451.out) hb); have n4_ := Zz.mk (bwP (by repeat (first | (with_reducible first | exact HB.out | apply bwA | apply pwN | apply bw1 | refine bwS ?_ GE451.out) | exact HB.out)) hb); clear HO446; clear HO454; clear BK451; clear HB; have HO446 := n0_; have HO454 := n1_; have HO457 := n2_; have BK451 := n3_; have HB := n4_; clear n0_ n1_ n2_ n3_ n4_; (try clear hb); (try clear ho0); (try clear A11); obtain ⟨Ao24, co24, eo24⟩ := Kd.R_slice HO454.out; subst eo24; obtain ⟨Ao25, co25, eo25⟩ := Kd.R_slice HO457.out; subst eo25) | (go_at_call 36; (with_reducible refine (laws_lhItems.calls k _ _ t452 _ _ t455 false _ ?side1 ?side2 ?side3 ?side4 A12.out).mono ?_); (case side1 => repeat (first | exact (Kd.R_reads' HO454.out).2.2 | (with_reducible refine Kd.CA ?_ _) | (with_reducible refine Kd.CN ?_ _) | (with_reducible refine Kd.CD ?_))); (case side2 => exact (Kd.R_reads' HO454.out).2.1); (case side3 => repeat (first | exact (Kd.R_reads' HO457.out).2.2 | (with_reducible refine Kd.CA ?_ _) | (with_reducible refine Kd.CN ?_ _) | (with_reducible refine Kd.CD ?_))); (case side4 => exact (Kd.R_reads' HO457.out).2.1); rintro e w' ⟨rfl, ⟨nd, rfl⟩⟩; (try clear A12); (try first | exact ⟨rfl, _, World.drewN_drewN _ _ _⟩ | exact ⟨rfl, _, Eq.trans (World.drewN_drewN _ _ _) (congrArg (World.drewN _) (Nat.add_assoc _ _ _))⟩))); try go_wp2_with (first | (go_at_call 31; (with_reducible refine (spec_CastPut.calls k _ _ t444 t447 t448 t449 t450 t455 _ ?side1 ?side2 A11.out).mono ?_); (case side1 => repeat (first | exact (Kd.R_reads' HO446.out).2.2 | (with_reducible refine Kd.CA ?_ _) | (with_reducible refine Kd.CN ?_ _) | (with_reducible refine Kd.CD ?_))); (case side2 => exact (Kd.R_reads' HO446.out).2.1); rintro e w23 ⟨v456, rfl, ho0, hb⟩; have n0_ := Zz.mk (Kd.R_elder' (by (with_reducible repeat (first | apply Kd.RA | apply Kd.RN | apply Kd.RD)); exact HO446.out) (Kd.R_base ho0) hb); have n1_ := Zz.mk (Kd.R_elder' (by (with_reducible repeat (first | apply Kd.RA | apply Kd.RN | apply Kd.RD)); exact HO454.out) (Kd.R_base ho0) hb); have n2_ := Zz.mk (Kd.R_lower (Kd.R_new' (Kd.R_new' ho0 (Kd.R_lt (by (with_reducible repeat (first | apply Kd.RA | apply Kd.RN | apply Kd.RD)); exact HO446.out))) (Kd.R_lt (by (with_reducible repeat (first | apply Kd.RA | apply Kd.RN | apply Kd.RD)); exact HO454.out))) (bwZ (by repeat (first | (with_reducible first | exact HB.out | apply bwA | apply pwN | apply bw1 | refine bwS ?_ GE451.out) | exact HB.out)))); have n3_ := Zz.mk (bkB (g := gb451) (o := .cells #[.int .i64 t447, .int .i64 t448, .int .i64 t449, .bool t450] 30 (0, 0)) (by (with_reducible repeat (first | refine bkN ?_ _ | refine bkD ?_ | refine bkA ?_ _)); exact BK451.out) hb); have n4_ := Zz.mk (bwP (by repeat (first | (with_reducible first | exact HB.out | apply bwA | apply pwN | apply bw1 | refine bwS ?_ GE451.out) | exact HB.out)) hb); clear HO446; clear HO454; clear BK451; clear HB; have HO446 := n0_; have HO454 := n1_; have HO457 := n2_; have BK451 := n3_; have HB := n4_; clear n0_ n1_ n2_ n3_ n4_; (try clear hb); (try clear ho0); (try clear A11); obtain ⟨Ao24, co24, eo24⟩ := Kd.R_slice HO454.out; subst eo24; obtain ⟨Ao25, co25, eo25⟩ := Kd.R_slice HO457.out; subst eo25) | (go_at_call 36; (with_reducible refine (laws_lhItems.calls k _ _ t452 _ _ t455 false _ ?side1 ?side2 ?side3 ?side4 A12.out).mono ?_); (case side1 => repeat (first | exact (Kd.R_reads' HO454.out).2.2 | (with_reducible refine Kd.CA ?_ _) | (with_reducible refine Kd.CN ?_ _) | (with_reducible refine Kd.CD ?_))); (case side2 => exact (Kd.R_reads' HO454.out).2.1); (case side3 => repeat (first | exact (Kd.R_reads' HO457.out).2.2 | (with_reducible refine Kd.CA ?_ _) | (with_reducible refine Kd.CN ?_ _) | (with_reducible refine Kd.CD ?_))); (case side4 => exact (Kd.R_reads' HO457.out).2.1); rintro e w' ⟨rfl, ⟨nd, rfl⟩⟩; (try clear A12); (try first | exact ⟨rfl, _, World.drewN_drewN _ _ _⟩ | exact ⟨rfl, _, Eq.trans (World.drewN_drewN _ _ _) (congrArg (World.drewN _) (Nat.add_assoc _ _ _))⟩))))
    go_meet
    case rel => exact ⟨_, (true), (by first | rfl | (simp; done) | (simp [*]; done)), H', ⟨by first | omega | exact Nat.le_refl _⟩, ⟨by (with_reducible repeat (first | apply Kd.RA | apply Kd.RN | apply Kd.RD)); exact Kd.R_mono HO446.out (fun _ hk => hk.1.2)⟩, ⟨by (with_reducible repeat (first | apply Kd.RA | apply Kd.RN | apply Kd.RD)); exact Kd.R_mono HO454.out (fun _ hk => hk.1.2)⟩, ⟨by (with_reducible repeat (first | refine bkN ?_ _ | refine bkD ?_ | refine bkA ?_ _)); exact BK451.out⟩, ⟨by repeat (first | (with_reducible first | exact HB.out | apply bwA | apply pwN | apply bw1 | refine bwS ?_ GE451.out) | exact HB.out)⟩⟩
  case rest =>
   clear HC5; try clear c1
   try clear c2
   try clear c2b0
   try clear c2b1
   try clear p2
   try clear c8
   try clear c13
   try clear hcz16_0
   try clear hcz16_1
   try clear hcz16_2
   try clear hcz16_3
   try clear hcz22_0
   try clear hcz22_1
   try clear hcz22_2
   try clear hcz22_3
   try clear hcz8_0
   try clear hcz8_1
   try clear hcz8_2
   try clear hcz8_3
   try clear hfz16_0
   try clear hfz16_1
   try clear hfz16_2
   try clear hfz16_3
   try clear hfz22_0
   try clear hfz22_1
   try clear hfz22_2
   try clear hfz22_3
   try clear hfz8_0
   try clear hfz8_1
   try clear hfz8_2
   try clear hfz8_3
   obtain ⟨kq, x32_4, rfl, HA, HJ4, HO_3, HO_5, BK451, HB⟩ := hcut; cases kq with
   | zero => exact absurd HA.out (by simp [laws_FnCastKeep.j0])
   | succ kj4 =>
    have H := HA.out; clear HA; simp only [laws_FnCastKeep.j0] at H; by_cases c26 : x32_4 = true
    ·subst c26
     have H1 : (some false) = some r := by rw [if_pos rfl] at H; exact H
     clear H; have H := H1; clear H1; obtain rfl := Option.some.inj H; go_wp2
     repeat (go_quiet (fail); try go_wp2)
     go_ret
     exact ⟨by first | rfl | (simp [eN, eS] <;> rfl) | (simp [*, eN, eS] <;> rfl), by repeat (first | (with_reducible first | exact HB.out | apply bwA | apply pwN | apply bw1 | refine bwS ?_ GE451.out) | exact HB.out)⟩
    ·replace c26 := Bool.eq_false_iff.mpr c26
     subst c26; have H1 : (laws_FnCastKeep.l0 kj4 t444 t452 0 t447 t448 t449 t450) = some r := by rw [if_neg (show ¬ (false = true) by decide)] at H; exact H
     clear H; have H := H1; clear H1; have H' := Zz.mk H; clear H; go_wp2
     repeat (go_quiet (fail); try go_wp2)
     go_loopg [6] kj4 (fun kq v6 w' => ∃ (x6_2 : Int), v6 = .int .i64 x6_2 ∧ Zz (laws_FnCastKeep.l0 kq t444 t452 x6_2 t447 t448 t449 t450 = some r) ∧ Zz (kq ≤ kj4) ∧ Zz (Kd.R k57 57 w' w.heap.size (fun k_ => some k_ ≠ (v453 : Value).ownBlock) (.slice Ao9 t444.length co9) t444) ∧ Zz (Kd.R k57 57 w' w.heap.size (fun k_ => some k_ ≠ ((.slice Ao9 t444.length co9) : Value).ownBlock) v453 t452) ∧ Zz (w'.heap[gb451]? = some (.cells #[.int .i64 t447, .int .i64 t448, .int .i64 t449, .bool t450] 30 (0, 0))) ∧ Zz (Below w.heap.size w w'))
     case atStart => exact ⟨(0), (by first | rfl | (simp; done) | (simp [*]; done)), H', ⟨Nat.le_refl _⟩, ⟨by (with_reducible repeat (first | apply Kd.RA | apply Kd.RN | apply Kd.RD)); exact HO_3.out⟩, ⟨by (with_reducible repeat (first | apply Kd.RA | apply Kd.RN | apply Kd.RD)); exact HO_5.out⟩, ⟨by (with_reducible repeat (first | refine bkN ?_ _ | refine bkD ?_ | refine bkA ?_ _)); exact BK451.out⟩, ⟨by repeat (first | (with_reducible first | exact HB.out | apply bwA | apply pwN | apply bw1 | refine bwS ?_ GE451.out) | exact HB.out)⟩⟩
     case round =>
      clear H'; try clear c1
      try clear c2
      try clear c2b0
      try clear c2b1
      try clear p2
      try clear c8
      try clear c13
      try clear c26
      try clear hcz16_0
      try clear hcz16_1
      try clear hcz16_2
      try clear hcz16_3
      try clear hcz22_0
      try clear hcz22_1
      try clear hcz22_2
      try clear hcz22_3
      try clear hcz8_0
      try clear hcz8_1
      try clear hcz8_2
      try clear hcz8_3
      try clear hfz16_0
      try clear hfz16_1
      try clear hfz16_2
      try clear hfz16_3
      try clear hfz22_0
      try clear hfz22_1
      try clear hfz22_2
      try clear hfz22_3
      try clear hfz8_0
      try clear hfz8_1
      try clear hfz8_2
      try clear hfz8_3
      try clear p2
      obtain ⟨x6_2, rfl, HA, HK2, HO_3, HO_5, BK451, HB⟩ := hrel; cases gk with
      | zero => exact absurd HA.out (by simp [laws_FnCastKeep.l0])
      | succ k2 =>
       have H := HA.out; clear HA; simp only [laws_FnCastKeep.l0] at H; have HC27 := Zz.mk H; clear H; go_upto_region 8 with (fail)
       repeat (go_quiet (fail); go_upto_region 8 with (fail))
       go_cut [44] (fun v44 wc => ∃ (kq : Nat) (x44_26 : Bool), v44 = .bool x44_26 ∧ Zz (laws_FnCastKeep.j2 kq t444 t452 x6_2 x44_26 t447 t448 t449 t450 = some r) ∧ Zz (kq ≤ k2) ∧ Zz (Kd.R k57 57 wc w.heap.size (fun k_ => some k_ ≠ (v453 : Value).ownBlock) (.slice Ao9 t444.length co9) t444) ∧ Zz (Kd.R k57 57 wc w.heap.size (fun k_ => some k_ ≠ ((.slice Ao9 t444.length co9) : Value).ownBlock) v453 t452) ∧ Zz (wc.heap[gb451]? = some (.cells #[.int .i64 t447, .int .i64 t448, .int .i64 t449, .bool t450] 30 (0, 0))) ∧ Zz (Below w.heap.size w wc))
       case first =>
        have H := HC27.out; clear HC27; by_cases c28 : x6_2 < (t444.length : Int)
        ·rw [if_pos c28] at H
         have c28b0 : decide (x6_2 < (t444.length : Int)) = true := decide_eq_true c28; clear c28; (first | rw [c28b0] | (simp only [i64_w, i32_w]; rw [c28b0]) | skip)
         replace H := Option.bind_eq_some_iff.mp H; obtain ⟨t461, A290, H⟩ := H; replace H : (if t461 = true then ((spec_FactOk.f t447 t448 t449 t450).bind fun t462 => (laws_FnCastKeep.j2 k2 t444 t452 x6_2 t462 t447 t448 t449 t450)) else (laws_FnCastKeep.j2 k2 t444 t452 x6_2 false t447 t448 t449 t450)) = some r := H; have A29 := Zz.mk A290; clear A290; by_cases c30 : t461 = true
         ·subst c30
          have H1 : ((spec_FactOk.f t447 t448 t449 t450).bind fun t462 => (laws_FnCastKeep.j2 k2 t444 t452 x6_2 t462 t447 t448 t449 t450)) = some r := by rw [if_pos rfl] at H; exact H
          clear H; have H := H1; clear H1; replace H := Option.bind_eq_some_iff.mp H; obtain ⟨t462, A310, H⟩ := H; replace H : (laws_FnCastKeep.j2 k2 t444 t452 x6_2 t462 t447 t448 t449 t450) = some r := H; have A31 := Zz.mk A310; clear A310; have H' := Zz.mk H; clear H; go_wp2_with (first | (go_at_call 27; (with_reducible refine (spec_CastOk.calls k2 _ _ t444 true _ ?side1 ?side2 A29.out).mono ?_); (case side1 => repeat (first | exact (Kd.R_reads' HO_3.out).2.2 | (with_reducible refine Kd.CA ?_ _) | (with_reducible refine Kd.CN ?_ _) | (with_reducible refine Kd.CD ?_))); (case side2 => exact (Kd.R_reads' HO_3.out).2.1); rintro e w32 ⟨rfl, hb⟩; have n0_ := Zz.mk (Kd.R_below (by (with_reducible repeat (first | apply Kd.RA | apply Kd.RN | apply Kd.RD)); exact HO_3.out) hb); have n1_ := Zz.mk (Kd.R_below (by (with_reducible repeat (first | apply Kd.RA | apply Kd.RN | apply Kd.RD)); exact HO_5.out) hb); have n2_ := Zz.mk (bkB (g := gb451) (o := .cells #[.int .i64 t447, .int .i64 t448, .int .i64 t449, .bool t450] 30 (0, 0)) (by (with_reducible repeat (first | refine bkN ?_ _ | refine bkD ?_ | refine bkA ?_ _)); exact BK451.out) hb); have n3_ := Zz.mk (bwP (by repeat (first | (with_reducible first | exact HB.out | apply bwA | apply pwN | apply bw1 | refine bwS ?_ GE451.out) | exact HB.out)) hb); clear HO_3; clear HO_5; clear BK451; clear HB; have HO_3 := n0_; have HO_5 := n1_; have BK451 := n2_; have HB := n3_; clear n0_ n1_ n2_ n3_; (try clear hb); (try clear A29); have hcz33_0 : w32.cell? ⟨gb451, 0, none⟩ = some (.int .i64 t447) := (bkC BK451.out 0).trans rfl; have hcz33_1 : w32.cell? ⟨gb451, 1, none⟩ = some (.int .i64 t448) := (bkC BK451.out 1).trans rfl; have hcz33_2 : w32.cell? ⟨gb451, 2, none⟩ = some (.int .i64 t449) := (bkC BK451.out 2).trans rfl; have hcz33_3 : w32.cell? ⟨gb451, 3, none⟩ = some (.bool t450) := (bkC BK451.out 3).trans rfl; have hfz33_0 := bkF BK451.out 0; have hfz33_1 := bkF BK451.out 1; have hfz33_2 := bkF BK451.out 2; have hfz33_3 := bkF BK451.out 3) | (go_at_call 25; (with_reducible refine (spec_FactOk.calls t447 t448 t449 t450 t462 _ A31.out).mono ?_); rintro e w34 ⟨rfl, hb⟩; have n0_ := Zz.mk (Kd.R_below (by (with_reducible repeat (first | apply Kd.RA | apply Kd.RN | apply Kd.RD)); exact HO_3.out) hb); have n1_ := Zz.mk (Kd.R_below (by (with_reducible repeat (first | apply Kd.RA | apply Kd.RN | apply Kd.RD)); exact HO_5.out) hb); have n2_ := Zz.mk (bkB (g := gb451) (o := .cells #[.int .i64 t447, .int .i64 t448, .int .i64 t449, .bool t450] 30 (0, 0)) (by (with_reducible repeat (first | refine bkN ?_ _ | refine bkD ?_ | refine bkA ?_ _)); exact BK451.out) hb); have n3_ := Zz.mk (bwP (by repeat (first | (with_reducible first | exact HB.out | apply bwA | apply pwN | apply bw1 | refine bwS ?_ GE451.out) | exact HB.out)) hb); clear HO_3; clear HO_5; clear BK451; clear HB; have HO_3 := n0_; have HO_5 := n1_; have BK451 := n2_; have HB := n3_; clear n0_ n1_ n2_ n3_; (try clear hb); (try clear A31)))
          repeat (go_quiet (first | (go_at_call 27; (with_reducible refine (spec_CastOk.calls k2 _ _ t444 true _ ?side1 ?side2 A29.out).mono ?_); (case side1 => repeat (first | exact (Kd.R_reads' HO_3.out).2.2 | (with_reducible refine Kd.CA ?_ _) | (with_reducible refine Kd.CN ?_ _) | (with_reducible refine Kd.CD ?_))); (case side2 => exact (Kd.R_reads' HO_3.out).2.1); rintro e w32 ⟨rfl, hb⟩; have n0_ := Zz.mk (Kd.R_below (by (with_reducible repeat (first | apply Kd.RA | apply Kd.RN | apply Kd.RD)); exact HO_3.out) hb); have n1_ := Zz.mk (Kd.R_below (by (with_reducible repeat (first | apply Kd.RA | apply Kd.RN | apply Kd.RD)); exact HO_5.out) hb); have n2_ := Zz.mk (bkB (g := gb451) (o := .cells #[.int .i64 t447, .int .i64 t448, .int .i64 t449, .bool t450] 30 (0, 0)) (by (with_reducible repeat (first | refine bkN ?_ _ | refine bkD ?_ | refine bkA ?_ _)); exact BK451.out) hb); have n3_ := Zz.mk (bwP (by repeat (first | (with_reducible first | exact HB.out | apply bwA | apply pwN | apply bw1 | refine bwS ?_ GE451.out) | exact HB.out)) hb); clear HO_3; clear HO_5; clear BK451; clear HB; have HO_3 := n0_; have HO_5 := n1_; have BK451 := n2_; have HB := n3_; clear n0_ n1_ n2_ n3_; (try clear hb); (try clear A29); have hcz33_0 : w32.cell? ⟨gb451, 0, none⟩ = some (.int .i64 t447) := (bkC BK451.out 0).trans rfl; have hcz33_1 : w32.cell? ⟨gb451, 1, none⟩ = some (.int .i64 t448) := (bkC BK451.out 1).trans rfl; have hcz33_2 : w32.cell? ⟨gb451, 2, none⟩ = some (.int .i64 t449) := (bkC BK451.out 2).trans rfl; have hcz33_3 : w32.cell? ⟨gb451, 3, none⟩ = some (.bool t450) := (bkC BK451.out 3).trans rfl; have hfz33_0 := bkF BK451.out 0; have hfz33_1 := bkF BK451.out 1; have hfz33_2 := bkF BK451.out 2; have hfz33_3 := bkF BK451.out 3) | (go_at_call 25; (with_reducible refine (spec_FactOk.calls t447 t448 t449 t450 t462 _ A31.out).mono ?_); rintro e w34 ⟨rfl, hb⟩; have n0_ := Zz.mk (Kd.R_below (by (with_reducible repeat (first | apply Kd.RA | apply Kd.RN | apply Kd.RD)); exact HO_3.out) hb); have n1_ := Zz.mk (Kd.R_below (by (with_reducible repeat (first | apply Kd.RA | apply Kd.RN | apply Kd.RD)); exact HO_5.out) hb); have n2_ := Zz.mk (bkB (g := gb451) (o := .cells #[.int .i64 t447, .int .i64 t448, .int .i64 t449, .bool t450] 30 (0, 0)) (by (with_reducible repeat (first | refine bkN ?_ _ | refine bkD ?_ | refine bkA ?_ _)); exact BK451.out) hb); have n3_ := Zz.mk (bwP (by repeat (first | (with_reducible first | exact HB.out | apply bwA | apply pwN | apply bw1 | refine bwS ?_ GE451.out) | exact HB.out)) hb); clear HO_3; clear HO_5; clear BK451; clear HB; have HO_3 := n0_; have HO_5 := n1_; have BK451 := n2_; have HB := n3_; clear n0_ n1_ n2_ n3_; (try clear hb); (try clear A31))); try go_wp2_with (first | (go_at_call 27; (with_reducible refine (spec_CastOk.calls k2 _ _ t444 true _ ?side1 ?side2 A29.out).mono ?_); (case side1 => repeat (first | exact (Kd.R_reads' HO_3.out).2.2 | (with_reducible refine Kd.CA ?_ _) | (with_reducible refine Kd.CN ?_ _) | (with_reducible refine Kd.CD ?_))); (case side2 => exact (Kd.R_reads' HO_3.out).2.1); rintro e w32 ⟨rfl, hb⟩; have n0_ := Zz.mk (Kd.R_below (by (with_reducible repeat (first | apply Kd.RA | apply Kd.RN | apply Kd.RD)); exact HO_3.out) hb); have n1_ := Zz.mk (Kd.R_below (by (with_reducible repeat (first | apply Kd.RA | apply Kd.RN | apply Kd.RD)); exact HO_5.out) hb); have n2_ := Zz.mk (bkB (g := gb451) (o := .cells #[.int .i64 t447, .int .i64 t448, .int .i64 t449, .bool t450] 30 (0, 0)) (by (with_reducible repeat (first | refine bkN ?_ _ | refine bkD ?_ | refine bkA ?_ _)); exact BK451.out) hb); have n3_ := Zz.mk (bwP (by repeat (first | (with_reducible first | exact HB.out | apply bwA | apply pwN | apply bw1 | refine bwS ?_ GE451.out) | exact HB.out)) hb); clear HO_3; clear HO_5; clear BK451; clear HB; have HO_3 := n0_; have HO_5 := n1_; have BK451 := n2_; have HB := n3_; clear n0_ n1_ n2_ n3_; (try clear hb); (try clear A29); have hcz33_0 : w32.cell? ⟨gb451, 0, none⟩ = some (.int .i64 t447) := (bkC BK451.out 0).trans rfl; have hcz33_1 : w32.cell? ⟨gb451, 1, none⟩ = some (.int .i64 t448) := (bkC BK451.out 1).trans rfl; have hcz33_2 : w32.cell? ⟨gb451, 2, none⟩ = some (.int .i64 t449) := (bkC BK451.out 2).trans rfl; have hcz33_3 : w32.cell? ⟨gb451, 3, none⟩ = some (.bool t450) := (bkC BK451.out 3).trans rfl; have hfz33_0 := bkF BK451.out 0; have hfz33_1 := bkF BK451.out 1; have hfz33_2 := bkF BK451.out 2; have hfz33_3 := bkF BK451.out 3) | (go_at_call 25; (with_reducible refine (spec_FactOk.calls t447 t448 t449 t450 t462 _ A31.out).mono ?_); rintro e w34 ⟨rfl, hb⟩; have n0_ := Zz.mk (Kd.R_below (by (with_reducible repeat (first | apply Kd.RA | apply Kd.RN | apply Kd.RD)); exact HO_3.out) hb); have n1_ := Zz.mk (Kd.R_below (by (with_reducible repeat (first | apply Kd.RA | apply Kd.RN | apply Kd.RD)); exact HO_5.out) hb); have n2_ := Zz.mk (bkB (g := gb451) (o := .cells #[.int .i64 t447, .int .i64 t448, .int .i64 t449, .bool t450] 30 (0, 0)) (by (with_reducible repeat (first | refine bkN ?_ _ | refine bkD ?_ | refine bkA ?_ _)); exact BK451.out) hb); have n3_ := Zz.mk (bwP (by repeat (first | (with_reducible first | exact HB.out | apply bwA | apply pwN | apply bw1 | refine bwS ?_ GE451.out) | exact HB.out)) hb); clear HO_3; clear HO_5; clear BK451; clear HB; have HO_3 := n0_; have HO_5 := n1_; have BK451 := n2_; have HB := n3_; clear n0_ n1_ n2_ n3_; (try clear hb); (try clear A31))))
          go_meet
          case rel => exact ⟨_, (t462), (by first | rfl | (simp; done) | (simp [*]; done)), H', ⟨by have := HJ4.out; have := HK2.out; first | omega | exact Nat.le_refl _⟩, ⟨by (with_reducible repeat (first | apply Kd.RA | apply Kd.RN | apply Kd.RD)); exact HO_3.out⟩, ⟨by (with_reducible repeat (first | apply Kd.RA | apply Kd.RN | apply Kd.RD)); exact HO_5.out⟩, ⟨by (with_reducible repeat (first | refine bkN ?_ _ | refine bkD ?_ | refine bkA ?_ _)); exact BK451.out⟩, ⟨by repeat (first | (with_reducible first | exact HB.out | apply bwA | apply pwN | apply bw1 | refine bwS ?_ GE451.out) | exact HB.out)⟩⟩
         ·replace c30 := Bool.eq_false_iff.mpr c30
          subst c30; have H1 : (laws_FnCastKeep.j2 k2 t444 t452 x6_2 false t447 t448 t449 t450) = some r := by rw [if_neg (show ¬ (false = true) by decide)] at H; exact H
          clear H; have H := H1; clear H1; have H' := Zz.mk H; clear H; go_wp2_with (first | (go_at_call 27; (with_reducible refine (spec_CastOk.calls k2 _ _ t444 false _ ?side1 ?side2 A29.out).mono ?_); (case side1 => repeat (first | exact (Kd.R_reads' HO_3.out).2.2 | (with_reducible refine Kd.CA ?_ _) | (with_reducible refine Kd.CN ?_ _) | (with_reducible refine Kd.CD ?_))); (case side2 => exact (Kd.R_reads' HO_3.out).2.1); rintro e w35 ⟨rfl, hb⟩; have n0_ := Zz.mk (Kd.R_below (by (with_reducible repeat (first | apply Kd.RA | apply Kd.RN | apply Kd.RD)); exact HO_3.out) hb); have n1_ := Zz.mk (Kd.R_below (by (with_reducible repeat (first | apply Kd.RA | apply Kd.RN | apply Kd.RD)); exact HO_5.out) hb); have n2_ := Zz.mk (bkB (g := gb451) (o := .cells #[.int .i64 t447, .int .i64 t448, .int .i64 t449, .bool t450] 30 (0, 0)) (by (with_reducible repeat (first | refine bkN ?_ _ | refine bkD ?_ | refine bkA ?_ _)); exact BK451.out) hb); have n3_ := Zz.mk (bwP (by repeat (first | (with_reducible first | exact HB.out | apply bwA | apply pwN | apply bw1 | refine bwS ?_ GE451.out) | exact HB.out)) hb); clear HO_3; clear HO_5; clear BK451; clear HB; have HO_3 := n0_; have HO_5 := n1_; have BK451 := n2_; have HB := n3_; clear n0_ n1_ n2_ n3_; (try clear hb); (try clear A29)))
          repeat (go_quiet (first | (go_at_call 27; (with_reducible refine (spec_CastOk.calls k2 _ _ t444 false _ ?side1 ?side2 A29.out).mono ?_); (case side1 => repeat (first | exact (Kd.R_reads' HO_3.out).2.2 | (with_reducible refine Kd.CA ?_ _) | (with_reducible refine Kd.CN ?_ _) | (with_reducible refine Kd.CD ?_))); (case side2 => exact (Kd.R_reads' HO_3.out).2.1); rintro e w35 ⟨rfl, hb⟩; have n0_ := Zz.mk (Kd.R_below (by (with_reducible repeat (first | apply Kd.RA | apply Kd.RN | apply Kd.RD)); exact HO_3.out) hb); have n1_ := Zz.mk (Kd.R_below (by (with_reducible repeat (first | apply Kd.RA | apply Kd.RN | apply Kd.RD)); exact HO_5.out) hb); have n2_ := Zz.mk (bkB (g := gb451) (o := .cells #[.int .i64 t447, .int .i64 t448, .int .i64 t449, .bool t450] 30 (0, 0)) (by (with_reducible repeat (first | refine bkN ?_ _ | refine bkD ?_ | refine bkA ?_ _)); exact BK451.out) hb); have n3_ := Zz.mk (bwP (by repeat (first | (with_reducible first | exact HB.out | apply bwA | apply pwN | apply bw1 | refine bwS ?_ GE451.out) | exact HB.out)) hb); clear HO_3; clear HO_5; clear BK451; clear HB; have HO_3 := n0_; have HO_5 := n1_; have BK451 := n2_; have HB := n3_; clear n0_ n1_ n2_ n3_; (try clear hb); (try clear A29))); try go_wp2_with (first | (go_at_call 27; (with_reducible refine (spec_CastOk.calls k2 _ _ t444 false _ ?side1 ?side2 A29.out).mono ?_); (case side1 => repeat (first | exact (Kd.R_reads' HO_3.out).2.2 | (with_reducible refine Kd.CA ?_ _) | (with_reducible refine Kd.CN ?_ _) | (with_reducible refine Kd.CD ?_))); (case side2 => exact (Kd.R_reads' HO_3.out).2.1); rintro e w35 ⟨rfl, hb⟩; have n0_ := Zz.mk (Kd.R_below (by (with_reducible repeat (first | apply Kd.RA | apply Kd.RN | apply Kd.RD)); exact HO_3.out) hb); have n1_ := Zz.mk (Kd.R_below (by (with_reducible repeat (first | apply Kd.RA | apply Kd.RN | apply Kd.RD)); exact HO_5.out) hb); have n2_ := Zz.mk (bkB (g := gb451) (o := .cells #[.int .i64 t447, .int .i64 t448, .int .i64 t449, .bool t450] 30 (0, 0)) (by (with_reducible repeat (first | refine bkN ?_ _ | refine bkD ?_ | refine bkA ?_ _)); exact BK451.out) hb); have n3_ := Zz.mk (bwP (by repeat (first | (with_reducible first | exact HB.out | apply bwA | apply pwN | apply bw1 | refine bwS ?_ GE451.out) | exact HB.out)) hb); clear HO_3; clear HO_5; clear BK451; clear HB; have HO_3 := n0_; have HO_5 := n1_; have BK451 := n2_; have HB := n3_; clear n0_ n1_ n2_ n3_; (try clear hb); (try clear A29))))
          go_meet
          case rel => exact ⟨_, (false), (by first | rfl | (simp; done) | (simp [*]; done)), H', ⟨by have := HJ4.out; have := HK2.out; first | omega | exact Nat.le_refl _⟩, ⟨by (with_reducible repeat (first | apply Kd.RA | apply Kd.RN | apply Kd.RD)); exact HO_3.out⟩, ⟨by (with_reducible repeat (first | apply Kd.RA | apply Kd.RN | apply Kd.RD)); exact HO_5.out⟩, ⟨by (with_reducible repeat (first | refine bkN ?_ _ | refine bkD ?_ | refine bkA ?_ _)); exact BK451.out⟩, ⟨by repeat (first | (with_reducible first | exact HB.out | apply bwA | apply pwN | apply bw1 | refine bwS ?_ GE451.out) | exact HB.out)⟩⟩
        ·rw [if_neg c28] at H
         have c28b0 : decide (x6_2 < (t444.length : Int)) = false := decide_eq_false c28; clear c28; (first | rw [c28b0] | (simp only [i64_w, i32_w]; rw [c28b0]) | skip)
         have H' := Zz.mk H; clear H; go_wp2
         repeat (go_quiet (fail); try go_wp2)
         go_meet
         case rel => exact ⟨_, (false), (by first | rfl | (simp; done) | (simp [*]; done)), H', ⟨by have := HJ4.out; have := HK2.out; first | omega | exact Nat.le_refl _⟩, ⟨by (with_reducible repeat (first | apply Kd.RA | apply Kd.RN | apply Kd.RD)); exact HO_3.out⟩, ⟨by (with_reducible repeat (first | apply Kd.RA | apply Kd.RN | apply Kd.RD)); exact HO_5.out⟩, ⟨by (with_reducible repeat (first | refine bkN ?_ _ | refine bkD ?_ | refine bkA ?_ _)); exact BK451.out⟩, ⟨by repeat (first | (with_reducible first | exact HB.out | apply bwA | apply pwN | apply bw1 | refine bwS ?_ GE451.out) | exact HB.out)⟩⟩
       case rest =>
        clear HC27; try clear c1
        try clear c2
        try clear c2b0
        try clear c2b1
        try clear p2
        try clear c3
        try clear c8
        try clear c13
        try clear c26
        try clear c28
        try clear c28b0
        try clear c30
        try clear hcz16_0
        try clear hcz16_1
        try clear hcz16_2
        try clear hcz16_3
        try clear hcz22_0
        try clear hcz22_1
        try clear hcz22_2
        try clear hcz22_3
        try clear hcz33_0
        try clear hcz33_1
        try clear hcz33_2
        try clear hcz33_3
        try clear hcz8_0
        try clear hcz8_1
        try clear hcz8_2
        try clear hcz8_3
        try clear hfz16_0
        try clear hfz16_1
        try clear hfz16_2
        try clear hfz16_3
        try clear hfz22_0
        try clear hfz22_1
        try clear hfz22_2
        try clear hfz22_3
        try clear hfz33_0
        try clear hfz33_1
        try clear hfz33_2
        try clear hfz33_3
        try clear hfz8_0
        try clear hfz8_1
        try clear hfz8_2
        try clear hfz8_3
        try clear p2
        obtain ⟨kq, x44_26, rfl, HA, HJ26, HO_3, HO_5, BK451, HB⟩ := hcut; cases kq with
        | zero => exact absurd HA.out (by simp [laws_FnCastKeep.j2])
        | succ kj26 =>
         have H := HA.out; clear HA; simp only [laws_FnCastKeep.j2] at H; by_cases c36 : x44_26 = true
         ·subst c36
          have H1 : (if 0 ≤ x6_2 then (if x6_2 < (t444.length : Int) then (laws_FnCastKeep.l1 kj26 t444 t452 x6_2 (((rd_T57 t444 x6_2).f0.f0) == t447) 0 t447 t448 t449 t450) else (none)) else (none)) = some r := by rw [if_pos rfl] at H; exact H
          clear H; have H := H1; clear H1; by_cases c37 : 0 ≤ x6_2
          ·rw [if_pos c37] at H
           have c37b0 : decide (0 ≤ x6_2) = true := decide_eq_true c37; clear c37; by_cases c38 : x6_2 < (t444.length : Int)
           ·rw [if_pos c38] at H
            have c38b0 : decide (x6_2 < (t444.length : Int)) = true := decide_eq_true c38; clear c38; have H' := Zz.mk H; clear H; have p463 : 0 ≤ (x6_2 : Int) := of_decide_eq_true (by first | (with_reducible assumption) | assumption); have q463 : x6_2 < (t444.length : Int) := of_decide_eq_true (by first | (with_reducible assumption) | assumption); obtain ⟨ad463, e463, hx463_0, hx463_1, hx463_2, hx463_3, hx463_4⟩ := at_T57 (Kd.R_reads' HO_3.out).2.2 x6_2 p463 q463; cases e463
            replace p463 := eq_true p463; replace q463 := eq_true q463; have hcz39_0 : wc.cell? ⟨gb451, 0, none⟩ = some (.int .i64 t447) := (bkC BK451.out 0).trans rfl; have hcz39_1 : wc.cell? ⟨gb451, 1, none⟩ = some (.int .i64 t448) := (bkC BK451.out 1).trans rfl; have hcz39_2 : wc.cell? ⟨gb451, 2, none⟩ = some (.int .i64 t449) := (bkC BK451.out 2).trans rfl; have hcz39_3 : wc.cell? ⟨gb451, 3, none⟩ = some (.bool t450) := (bkC BK451.out 3).trans rfl; have hfz39_0 := bkF BK451.out 0; have hfz39_1 := bkF BK451.out 1; have hfz39_2 := bkF BK451.out 2; have hfz39_3 := bkF BK451.out 3; go_wp2
            repeat (go_quiet (fail); try go_wp2)
            go_loopg [7, 8] kj26 (fun kq v7 v8 w' => ∃ (x7_4 : Bool) (x8_4 : Int), v7 = .bool x7_4 ∧ v8 = .int .i64 x8_4 ∧ Zz (laws_FnCastKeep.l1 kq t444 t452 x6_2 x7_4 x8_4 t447 t448 t449 t450 = some r) ∧ Zz (kq ≤ kj26) ∧ Zz (Kd.R k57 57 w' w.heap.size (fun k_ => some k_ ≠ (v453 : Value).ownBlock) (.slice (some ad463) t444.length co9) t444) ∧ Zz (Kd.R k57 57 w' w.heap.size (fun k_ => some k_ ≠ ((.slice (some ad463) t444.length co9) : Value).ownBlock) v453 t452) ∧ Zz (w'.heap[gb451]? = some (.cells #[.int .i64 t447, .int .i64 t448, .int .i64 t449, .bool t450] 30 (0, 0))) ∧ Zz (Below w.heap.size w w'))
            case atStart => exact ⟨((((rd_T57 t444 x6_2).f0.f0) == t447)), (0), (by first | rfl | (simp; done) | (simp [*]; done)), (by first | rfl | (simp; done) | (simp [*]; done)), H', ⟨Nat.le_refl _⟩, ⟨by (with_reducible repeat (first | apply Kd.RA | apply Kd.RN | apply Kd.RD)); exact HO_3.out⟩, ⟨by (with_reducible repeat (first | apply Kd.RA | apply Kd.RN | apply Kd.RD)); exact HO_5.out⟩, ⟨by (with_reducible repeat (first | refine bkN ?_ _ | refine bkD ?_ | refine bkA ?_ _)); exact BK451.out⟩, ⟨by repeat (first | (with_reducible first | exact HB.out | apply bwA | apply pwN | apply bw1 | refine bwS ?_ GE451.out) | exact HB.out)⟩⟩
            case round =>
             clear H'; try clear c1
             try clear c2
             try clear c2b0
             try clear c2b1
             try clear p2
             try clear c3
             try clear p4
             try clear q4
             try clear hx4
             try clear c8
             try clear c13
             try clear c26
             try clear c28
             try clear c28b0
             try clear c30
             try clear c36
             try clear c37
             try clear c37b0
             try clear c38
             try clear c38b0
             try clear hcz16_0
             try clear hcz16_1
             try clear hcz16_2
             try clear hcz16_3
             try clear hcz22_0
             try clear hcz22_1
             try clear hcz22_2
             try clear hcz22_3
             try clear hcz33_0
             try clear hcz33_1
             try clear hcz33_2
             try clear hcz33_3
             try clear hcz39_0
             try clear hcz39_1
             try clear hcz39_2
             try clear hcz39_3
             try clear hcz8_0
             try clear hcz8_1
             try clear hcz8_2
             try clear hcz8_3
             try clear hfz16_0
             try clear hfz16_1
             try clear hfz16_2
             try clear hfz16_3
             try clear hfz22_0
             try clear hfz22_1
             try clear hfz22_2
             try clear hfz22_3
             try clear hfz33_0
             try clear hfz33_1
             try clear hfz33_2
             try clear hfz33_3
             try clear hfz39_0
             try clear hfz39_1
             try clear hfz39_2
             try clear hfz39_3
             try clear hfz8_0
             try clear hfz8_1
             try clear hfz8_2
             try clear hfz8_3
             try clear hx463_0
             try clear hx463_1
             try clear hx463_2
             try clear hx463_3
             try clear hx463_4
             try clear p2
             try clear p463
             try clear q463
             obtain ⟨x7_4, x8_4, rfl, rfl, HA, HK4, HO_3, HO_5, BK451, HB⟩ := hrel; cases gk with
             | zero => exact absurd HA.out (by simp [laws_FnCastKeep.l1])
             | succ k4 =>
              have H := HA.out; clear HA; simp only [laws_FnCastKeep.l1] at H; by_cases c40 : x8_4 < (t452.length : Int)
              ·rw [if_pos c40] at H
               have c40b0 : decide (x8_4 < (t452.length : Int)) = true := decide_eq_true c40; clear c40; by_cases c41 : x7_4 = true
               ·subst c41
                have H1 : (laws_FnCastKeep.l1 k4 t444 t452 x6_2 true (wrap64 (x8_4 + 1)) t447 t448 t449 t450) = some r := by rw [if_pos rfl] at H; exact H
                clear H; have H := H1; clear H1; have H' := Zz.mk H; clear H; obtain ⟨Ao42, co42, eo42⟩ := Kd.R_slice HO_5.out; subst eo42; go_wp2
                repeat (go_quiet (fail); try go_wp2)
                go_roundg k4
                case measure => have := HJ4.out; have := HK2.out; have := HJ26.out; have := HK4.out; omega
                case rel => exact ⟨(true), (wrap64 (x8_4 + 1)), (by first | rfl | (simp; done) | (simp [*]; done)), (by first | rfl | (simp; done) | (simp [*]; done)), H', ⟨by have := HJ4.out; have := HK2.out; have := HJ26.out; have := HK4.out; omega⟩, ⟨by (with_reducible repeat (first | apply Kd.RA | apply Kd.RN | apply Kd.RD)); exact HO_3.out⟩, ⟨by (with_reducible repeat (first | apply Kd.RA | apply Kd.RN | apply Kd.RD)); exact HO_5.out⟩, ⟨by (with_reducible repeat (first | refine bkN ?_ _ | refine bkD ?_ | refine bkA ?_ _)); exact BK451.out⟩, ⟨by repeat (first | (with_reducible first | exact HB.out | apply bwA | apply pwN | apply bw1 | refine bwS ?_ GE451.out) | exact HB.out)⟩⟩
               ·replace c41 := Bool.eq_false_iff.mpr c41
                subst c41; have H1 : (if 0 ≤ x8_4 then (if 0 ≤ x6_2 then (if x6_2 < (t444.length : Int) then (laws_FnCastKeep.l1 k4 t444 t452 x6_2 ((((rd_T57 t452 x8_4).f0.f0) == ((rd_T57 t444 x6_2).f0.f0) && (((rd_T57 t452 x8_4).f0.f1) == ((rd_T57 t444 x6_2).f0.f1) && (((rd_T57 t452 x8_4).f0.f2) == ((rd_T57 t444 x6_2).f0.f2) && (((rd_T57 t452 x8_4).f0.f3) == ((rd_T57 t444 x6_2).f0.f3))))) && (((rd_T57 t452 x8_4).f1) == ((rd_T57 t444 x6_2).f1))) (wrap64 (x8_4 + 1)) t447 t448 t449 t450) else (none)) else (none)) else (none)) = some r := by rw [if_neg (show ¬ (false = true) by decide)] at H; exact H
                clear H; have H := H1; clear H1; by_cases c43 : 0 ≤ x8_4
                ·rw [if_pos c43] at H
                 have c43b0 : decide (0 ≤ x8_4) = true := decide_eq_true c43; clear c43; by_cases c44 : 0 ≤ x6_2
                 ·rw [if_pos c44] at H
                  have c44b0 : decide (0 ≤ x6_2) = true := decide_eq_true c44; clear c44; by_cases c45 : x6_2 < (t444.length : Int)
                  ·rw [if_pos c45] at H
                   have c45b0 : decide (x6_2 < (t444.length : Int)) = true := decide_eq_true c45; clear c45; have H' := Zz.mk H; clear H; obtain ⟨Ao46, co46, eo46⟩ := Kd.R_slice HO_5.out; subst eo46; have p464 : 0 ≤ (x8_4 : Int) := of_decide_eq_true (by first | (with_reducible assumption) | assumption); have q464 : x8_4 < (t452.length : Int) := of_decide_eq_true (by first | (with_reducible assumption) | assumption); obtain ⟨ad464, e464, hx464_0, hx464_1, hx464_2, hx464_3, hx464_4⟩ := at_T57 (Kd.R_reads' HO_5.out).2.2 x8_4 p464 q464; cases e464
                   replace p464 := eq_true p464; replace q464 := eq_true q464; have p465 : 0 ≤ (x6_2 : Int) := of_decide_eq_true (by first | (with_reducible assumption) | assumption); have q465 : x6_2 < (t444.length : Int) := of_decide_eq_true (by first | (with_reducible assumption) | assumption); obtain ⟨ad465, e465, hx465_0, hx465_1, hx465_2, hx465_3, hx465_4⟩ := at_T57 (Kd.R_reads' HO_3.out).2.2 x6_2 p465 q465; obtain rfl : ad463 = ad465 := (by injection e465)
                   replace p465 := eq_true p465; replace q465 := eq_true q465; go_wp2
                   repeat (go_quiet (fail); try go_wp2)
                   go_roundg k4
                   case measure => have := HJ4.out; have := HK2.out; have := HJ26.out; have := HK4.out; omega
                   case rel => exact ⟨(((((rd_T57 t452 x8_4).f0.f0) == ((rd_T57 t444 x6_2).f0.f0) && (((rd_T57 t452 x8_4).f0.f1) == ((rd_T57 t444 x6_2).f0.f1) && (((rd_T57 t452 x8_4).f0.f2) == ((rd_T57 t444 x6_2).f0.f2) && (((rd_T57 t452 x8_4).f0.f3) == ((rd_T57 t444 x6_2).f0.f3))))) && (((rd_T57 t452 x8_4).f1) == ((rd_T57 t444 x6_2).f1)))), (wrap64 (x8_4 + 1)), (by first | rfl | (simp; done) | (simp [*]; done)), (by first | rfl | (simp; done) | (simp [*]; done)), H', ⟨by have := HJ4.out; have := HK2.out; have := HJ26.out; have := HK4.out; omega⟩, ⟨by (with_reducible repeat (first | apply Kd.RA | apply Kd.RN | apply Kd.RD)); exact HO_3.out⟩, ⟨by (with_reducible repeat (first | apply Kd.RA | apply Kd.RN | apply Kd.RD)); exact HO_5.out⟩, ⟨by (with_reducible repeat (first | refine bkN ?_ _ | refine bkD ?_ | refine bkA ?_ _)); exact BK451.out⟩, ⟨by repeat (first | (with_reducible first | exact HB.out | apply bwA | apply pwN | apply bw1 | refine bwS ?_ GE451.out) | exact HB.out)⟩⟩
                  ·rw [if_neg c45] at H; exact absurd H (by simp)
                 ·rw [if_neg c44] at H; exact absurd H (by simp)
                ·rw [if_neg c43] at H; exact absurd H (by simp)
              ·rw [if_neg c40] at H
               have c40b0 : decide (x8_4 < (t452.length : Int)) = false := decide_eq_false c40; clear c40; by_cases c47 : x7_4 = true
               ·subst c47
                have H1 : (laws_FnCastKeep.l0 k4 t444 t452 (wrap64 (x6_2 + 1)) t447 t448 t449 t450) = some r := by rw [if_pos rfl] at H; exact H
                clear H; have H := H1; clear H1; have H' := Zz.mk H; clear H; obtain ⟨Ao48, co48, eo48⟩ := Kd.R_slice HO_5.out; subst eo48; go_wp2
                repeat (go_quiet (fail); try go_wp2)
                go_roundg k4
                case measure => have := HJ4.out; have := HK2.out; have := HJ26.out; have := HK4.out; omega
                case rel => exact ⟨(wrap64 (x6_2 + 1)), (by first | rfl | (simp; done) | (simp [*]; done)), H', ⟨by have := HJ4.out; have := HK2.out; have := HJ26.out; have := HK4.out; omega⟩, ⟨by (with_reducible repeat (first | apply Kd.RA | apply Kd.RN | apply Kd.RD)); exact HO_3.out⟩, ⟨by (with_reducible repeat (first | apply Kd.RA | apply Kd.RN | apply Kd.RD)); exact HO_5.out⟩, ⟨by (with_reducible repeat (first | refine bkN ?_ _ | refine bkD ?_ | refine bkA ?_ _)); exact BK451.out⟩, ⟨by repeat (first | (with_reducible first | exact HB.out | apply bwA | apply pwN | apply bw1 | refine bwS ?_ GE451.out) | exact HB.out)⟩⟩
               ·replace c47 := Bool.eq_false_iff.mpr c47
                subst c47; have H1 : (some false) = some r := by rw [if_neg (show ¬ (false = true) by decide)] at H; exact H
                clear H; have H := H1; clear H1; obtain rfl := Option.some.inj H; obtain ⟨Ao49, co49, eo49⟩ := Kd.R_slice HO_5.out; subst eo49; go_wp2
                repeat (go_quiet (fail); try go_wp2)
                go_ret
                exact ⟨by first | rfl | (simp [eN, eS] <;> rfl) | (simp [*, eN, eS] <;> rfl), by repeat (first | (with_reducible first | exact HB.out | apply bwA | apply pwN | apply bw1 | refine bwS ?_ GE451.out) | exact HB.out)⟩
           ·rw [if_neg c38] at H; exact absurd H (by simp)
          ·rw [if_neg c37] at H; exact absurd H (by simp)
         ·replace c36 := Bool.eq_false_iff.mpr c36
          subst c36; have H1 : (some true) = some r := by rw [if_neg (show ¬ (false = true) by decide)] at H; exact H
          clear H; have H := H1; clear H1; obtain rfl := Option.some.inj H; go_wp2
          repeat (go_quiet (fail); try go_wp2)
          go_ret
          exact ⟨by first | rfl | (simp [eN, eS] <;> rfl) | (simp [*, eN, eS] <;> rfl), by repeat (first | (with_reducible first | exact HB.out | apply bwA | apply pwN | apply bw1 | refine bwS ?_ GE451.out) | exact HB.out)⟩

/-- THE ONE PURE STATEMENT of laws_FnCastKeep: yours. -/
def laws_FnCastKeep.Pure : Prop := ∀ (l0 : List Int), l0.length ≤ maxLen → l0.length * 1 ≤ 140737488351232 → (∀ x ∈ l0, (Lit.int .u8 x).wf = true) → ∃ k, laws_FnCastKeep.f k l0 = some true
theorem laws_FnCastKeep.walk (P : laws_FnCastKeep.Pure) (a0 : Option Addr) (len0 cap0 : Nat) (z0 : List Int) (w : World) (w0 : (a0 = none ∧ len0 = 0 ∧ cap0 = 0 ∧ z0 = []) ∨ ∃ x, a0 = some x ∧ len0 ≤ cap0 ∧ cap0 ≤ maxLen ∧ z0.length = cap0 ∧ (∀ i, i < z0.length → w.cell? (x.add i) = some (.int .u8 (z0.getD i 0))) ∧ ∀ n ∈ z0, (Lit.int .u8 n).wf = true) (y0 : len0 * 1 ≤ 140737488351232) :
  Calls Try.prog 8 #[.slice a0 len0 cap0] w fun e w' => e = .returned (.bool true) ∧ Below w.heap.size w w' := by
 obtain ⟨l0, rfl, hr0, hm0, hw0, hc0⟩ := ReadsInt.ofRowC w0; obtain ⟨k, h⟩ := P l0 hm0 y0 hw0; refine (laws_FnCastKeep.calls k _ _ l0 true w (Kd.C_of_reads (d := (0 : Int)) (h1 := fun _ => rfl) hr0) hc0 h).mono ?_; rintro e w' ⟨rfl, hd⟩; exact ⟨rfl, hd⟩

end Go.Proofs.Ytjaihhgkcdnhnaa.PFnCastKeep
