/- Functions of the program as plain functions, and that each call does what they tell. Conditions: none. -/
import Derived.Test.YtbibieonaceolaaPFnCastAllx0
import Derived.Test.YtbibieonaceolaaPFnCastAllx4
namespace Go.Proofs.Ytbibieonaceolaa.PFnCastAll
open Go.RowKit Go.Proofs.YtbibieonaceolaaW.PrintWords Go.Proofs.YtbibieonaceolaaW.PrintLast Go.Proofs.YtbibieonaceolaaW.PrintMore
attribute [local go_sem] max2_int min2_int max_two min_two max_three min_three max_four min_four
set_option linter.unusedVariables false
set_option linter.unusedSimpArgs false

/-! ### spec_l5Next: function 42 -/
def spec_l5Next.l0 : Nat → List (S42) → List Bool → Int → Int → Option (Int)
 | 0, _, _, _, _ => none
 | k + 1, x0, x1, x5, x6 => if x6 < (x0.length : Int) then (if 0 ≤ x6 then (if x6 < (x1.length : Int) then (if rdOf false x1 x6 = true then (spec_l5Next.l0 k x0 x1 x5 (wrap64 (x6 + 1))) else (if x5 < 0 then (spec_l5Next.l0 k x0 x1 x6 (wrap64 (x6 + 1))) else (if 0 ≤ x5 then (if x5 < (x0.length : Int) then (if ((rd_T42 x0 x6).f1) > ((rd_T42 x0 x5).f1) then (spec_l5Next.l0 k x0 x1 x6 (wrap64 (x6 + 1))) else (spec_l5Next.l0 k x0 x1 x5 (wrap64 (x6 + 1)))) else (none)) else (none)))) else (none)) else (none)) else (some x5)
def spec_l5Next.f (k : Nat) (l0 : List (S42)) (l1 : List Bool) : Option (Int) := spec_l5Next.l0 k l0 l1 (-1) 0
theorem spec_l5Next.mono_l : ∀ k, (∀ y0 y1 y2 y3, LeO (spec_l5Next.l0 k y0 y1 y2 y3) (spec_l5Next.l0 (k + 1) y0 y1 y2 y3))
 | 0 => fun _ _ _ _ r h => by simp [spec_l5Next.l0] at h
 | k + 1 => by
  have ih0 := spec_l5Next.mono_l k
  ·intro y0 y1 y2 y3
   unfold spec_l5Next.l0; repeat' first
   | (with_reducible exact ih0 _ _ _ _)
   | (with_reducible exact LeO.refl _)
   | (with_reducible exact LeO.none _)
   | (with_reducible refine LeO.ite ?_ ?_)
   | (with_reducible refine LeO.bind ?_ (fun _ => ?_))
   | exact ih0 _ _ _ _
   | exact LeO.none _
   | refine LeO.ite ?_ ?_
   | refine LeO.bind ?_ (fun _ => ?_)
theorem spec_l5Next.mono : ∀ a0 a1 k, LeO (spec_l5Next.f k a0 a1) (spec_l5Next.f (k + 1) a0 a1) := by
 intro a0 a1 k; have ih0 := spec_l5Next.mono_l k; unfold spec_l5Next.f
 repeat' first
   | (with_reducible exact ih0 _ _ _ _)
   | (with_reducible exact LeO.refl _)
   | (with_reducible exact LeO.none _)
   | (with_reducible refine LeO.ite ?_ ?_)
   | (with_reducible refine LeO.bind ?_ (fun _ => ?_))
   | exact ih0 _ _ _ _
   | exact LeO.none _
   | refine LeO.ite ?_ ?_
   | refine LeO.bind ?_ (fun _ => ?_)
set_option maxHeartbeats 8000000 in
set_option maxRecDepth 100000 in
theorem spec_l5Next.calls (k : Nat) (A0 : Option Addr) (c0 : Nat) (l0 : List (S42)) (A1 : Option Addr) (c1 : Nat) (l1 : List Bool) (r : Int) (w : World) (hr0 : Kd.C k42 w A0 l0.length l0) (hc0 : l0.length ≤ c0) (hr1 : Kd.C Kd.bool w A1 l1.length l1) (hc1 : l1.length ≤ c1) (h : spec_l5Next.f k l0 l1 = some r) :
  Calls Try.prog 42 #[.slice A0 l0.length c0, .slice A1 l1.length c1] w fun e w' => e = .returned (.int .i64 r) ∧ Drawn0 w w' := by
 have HR0 := Zz.mk hr0; have HC0 := Zz.mk hc0; clear hr0 hc0; have HR1 := Zz.mk hr1; have HC1 := Zz.mk hc1; clear hr1 hc1; have H : (spec_l5Next.l0 k l0 l1 (-1) 0) = some r := h; clear h; have H' := Zz.mk H; clear H; go_enter Try.func42, Try.ntmps42; go_wp2
 repeat (go_quiet (fail); try go_wp2)
 go_loopg [5, 6] k (fun kq v5 v6 w' => ∃ (x5_1 : Int) (x6_1 : Int), v5 = .int .i64 x5_1 ∧ v6 = .int .i64 x6_1 ∧ Zz (spec_l5Next.l0 kq l0 l1 x5_1 x6_1 = some r) ∧ Zz (kq ≤ k) ∧ Drawn0 w w')
 case atStart => exact ⟨((-1)), (0), (by first | rfl | (simp; done) | (simp [*]; done)), (by first | rfl | (simp; done) | (simp [*]; done)), H', ⟨Nat.le_refl _⟩, by repeat (first | exact Drawn0.refl _ | apply Drawn0.step)⟩
 case round =>
  clear H'; try clear c1
  try clear p2
  obtain ⟨x5_1, x6_1, rfl, rfl, HA, HK1, ⟨m1, rfl⟩⟩ := hrel; cases gk with
  | zero => exact absurd HA.out (by simp [spec_l5Next.l0])
  | succ k1 =>
   have H := HA.out; clear HA; simp only [spec_l5Next.l0] at H; by_cases c3 : x6_1 < (l0.length : Int)
   ·rw [if_pos c3] at H
    have c3b0 : decide (x6_1 < (l0.length : Int)) = true := decide_eq_true c3; clear c3; by_cases c4 : 0 ≤ x6_1
    ·rw [if_pos c4] at H
     have c4b0 : decide (0 ≤ x6_1) = true := decide_eq_true c4; clear c4; by_cases c5 : x6_1 < (l1.length : Int)
     ·rw [if_pos c5] at H
      have c5b0 : decide (x6_1 < (l1.length : Int)) = true := decide_eq_true c5; clear c5; obtain ⟨bq6, hbq6⟩ : ∃ b_ : Bool, b_ = (rdOf false l1 x6_1) := ⟨_, rfl⟩
      replace H : (if bq6 = true then (spec_l5Next.l0 k1 l0 l1 x5_1 (wrap64 (x6_1 + 1))) else (if x5_1 < 0 then (spec_l5Next.l0 k1 l0 l1 x6_1 (wrap64 (x6_1 + 1))) else (if 0 ≤ x5_1 then (if x5_1 < (l0.length : Int) then (if ((rd_T42 l0 x6_1).f1) > ((rd_T42 l0 x5_1).f1) then (spec_l5Next.l0 k1 l0 l1 x6_1 (wrap64 (x6_1 + 1))) else (spec_l5Next.l0 k1 l0 l1 x5_1 (wrap64 (x6_1 + 1)))) else (none)) else (none)))) = some r := by rw [← hbq6] at H; exact H
      have Nbq6 := Zz.mk hbq6; clear hbq6; by_cases c7 : bq6 = true
      ·subst c7
       have H1 : (spec_l5Next.l0 k1 l0 l1 x5_1 (wrap64 (x6_1 + 1))) = some r := by rw [if_pos rfl] at H; exact H
       clear H; have H := H1; clear H1; have H' := Zz.mk H; clear H; have p111 : 0 ≤ (x6_1 : Int) := of_decide_eq_true (by first | (with_reducible assumption) | assumption); have q111 : x6_1 < (l1.length : Int) := of_decide_eq_true (by first | (with_reducible assumption) | assumption); obtain ⟨ad111, e111, hx111_0⟩ := Kd.at_bool HR1.out x6_1 p111 q111; (try rw [← Nbq6.out] at hx111_0)
       cases e111
       replace p111 := eq_true p111; replace q111 := eq_true q111; go_wp2
       repeat (go_quiet (fail); try go_wp2)
       go_roundg k1
       case measure => have := HK1.out; omega
       case rel => exact ⟨(x5_1), (wrap64 (x6_1 + 1)), (by first | rfl | (simp; done) | (simp [*]; done)), (by first | rfl | (simp; done) | (simp [*]; done)), H', ⟨by have := HK1.out; omega⟩, by repeat (first | exact Drawn0.refl _ | apply Drawn0.step)⟩
      ·replace c7 := Bool.eq_false_iff.mpr c7
       subst c7; have H1 : (if x5_1 < 0 then (spec_l5Next.l0 k1 l0 l1 x6_1 (wrap64 (x6_1 + 1))) else (if 0 ≤ x5_1 then (if x5_1 < (l0.length : Int) then (if ((rd_T42 l0 x6_1).f1) > ((rd_T42 l0 x5_1).f1) then (spec_l5Next.l0 k1 l0 l1 x6_1 (wrap64 (x6_1 + 1))) else (spec_l5Next.l0 k1 l0 l1 x5_1 (wrap64 (x6_1 + 1)))) else (none)) else (none))) = some r := by rw [if_neg (show ¬ (false = true) by decide)] at H; exact H
       clear H; have H := H1; clear H1; by_cases c8 : x5_1 < 0
       ·rw [if_pos c8] at H
        have c8b0 : decide (x5_1 < 0) = true := decide_eq_true c8; clear c8; have H' := Zz.mk H; clear H; have p111 : 0 ≤ (x6_1 : Int) := of_decide_eq_true (by first | (with_reducible assumption) | assumption); have q111 : x6_1 < (l1.length : Int) := of_decide_eq_true (by first | (with_reducible assumption) | assumption); obtain ⟨ad111, e111, hx111_0⟩ := Kd.at_bool HR1.out x6_1 p111 q111; (try rw [← Nbq6.out] at hx111_0)
        cases e111
        replace p111 := eq_true p111; replace q111 := eq_true q111; go_wp2
        repeat (go_quiet (fail); try go_wp2)
        go_roundg k1
        case measure => have := HK1.out; omega
        case rel => exact ⟨(x6_1), (wrap64 (x6_1 + 1)), (by first | rfl | (simp; done) | (simp [*]; done)), (by first | rfl | (simp; done) | (simp [*]; done)), H', ⟨by have := HK1.out; omega⟩, by repeat (first | exact Drawn0.refl _ | apply Drawn0.step)⟩
       ·rw [if_neg c8] at H
        have c8b0 : decide (x5_1 < 0) = false := decide_eq_false c8; clear c8; by_cases c9 : 0 ≤ x5_1
        ·rw [if_pos c9] at H
         have c9b0 : decide (0 ≤ x5_1) = true := decide_eq_true c9; clear c9; by_cases c10 : x5_1 < (l0.length : Int)
         ·rw [if_pos c10] at H
          have c10b0 : decide (x5_1 < (l0.length : Int)) = true := decide_eq_true c10; clear c10; by_cases c11 : ((rd_T42 l0 x6_1).f1) > ((rd_T42 l0 x5_1).f1)
          ·rw [if_pos c11] at H
           have c11b0 : decide (((rd_T42 l0 x5_1).f1) < ((rd_T42 l0 x6_1).f1)) = true := decide_eq_true c11; clear c11; have H' := Zz.mk H; clear H; have p111 : 0 ≤ (x6_1 : Int) := of_decide_eq_true (by first | (with_reducible assumption) | assumption); have q111 : x6_1 < (l1.length : Int) := of_decide_eq_true (by first | (with_reducible assumption) | assumption); obtain ⟨ad111, e111, hx111_0⟩ := Kd.at_bool HR1.out x6_1 p111 q111; (try rw [← Nbq6.out] at hx111_0)
           cases e111
           replace p111 := eq_true p111; replace q111 := eq_true q111; have p112 : 0 ≤ (x6_1 : Int) := of_decide_eq_true (by first | (with_reducible assumption) | assumption); have q112 : x6_1 < (l0.length : Int) := of_decide_eq_true (by first | (with_reducible assumption) | assumption); obtain ⟨ad112, e112, hx112_0, hx112_1, hx112_2, hx112_3, hx112_4⟩ := at_T42 HR0.out x6_1 p112 q112; (try rw [← Nbq6.out] at hx112_3)
           cases e112
           replace p112 := eq_true p112; replace q112 := eq_true q112; have p113 : 0 ≤ (x5_1 : Int) := of_decide_eq_true (by first | (with_reducible assumption) | assumption); have q113 : x5_1 < (l0.length : Int) := of_decide_eq_true (by first | (with_reducible assumption) | assumption); obtain ⟨ad113, e113, hx113_0, hx113_1, hx113_2, hx113_3, hx113_4⟩ := at_T42 HR0.out x5_1 p113 q113; (try rw [← Nbq6.out] at hx113_3)
           obtain rfl : ad112 = ad113 := (by injection e113)
           replace p113 := eq_true p113; replace q113 := eq_true q113; go_wp2
           repeat (go_quiet (fail); try go_wp2)
           go_roundg k1
           case measure => have := HK1.out; omega
           case rel => exact ⟨(x6_1), (wrap64 (x6_1 + 1)), (by first | rfl | (simp; done) | (simp [*]; done)), (by first | rfl | (simp; done) | (simp [*]; done)), H', ⟨by have := HK1.out; omega⟩, by repeat (first | exact Drawn0.refl _ | apply Drawn0.step)⟩
          ·rw [if_neg c11] at H
           have c11b0 : decide (((rd_T42 l0 x5_1).f1) < ((rd_T42 l0 x6_1).f1)) = false := decide_eq_false c11; clear c11; have H' := Zz.mk H; clear H; have p111 : 0 ≤ (x6_1 : Int) := of_decide_eq_true (by first | (with_reducible assumption) | assumption); have q111 : x6_1 < (l1.length : Int) := of_decide_eq_true (by first | (with_reducible assumption) | assumption); obtain ⟨ad111, e111, hx111_0⟩ := Kd.at_bool HR1.out x6_1 p111 q111; (try rw [← Nbq6.out] at hx111_0)
           cases e111
           replace p111 := eq_true p111; replace q111 := eq_true q111; have p112 : 0 ≤ (x6_1 : Int) := of_decide_eq_true (by first | (with_reducible assumption) | assumption); have q112 : x6_1 < (l0.length : Int) := of_decide_eq_true (by first | (with_reducible assumption) | assumption); obtain ⟨ad112, e112, hx112_0, hx112_1, hx112_2, hx112_3, hx112_4⟩ := at_T42 HR0.out x6_1 p112 q112; (try rw [← Nbq6.out] at hx112_3)
           cases e112
           replace p112 := eq_true p112; replace q112 := eq_true q112; have p113 : 0 ≤ (x5_1 : Int) := of_decide_eq_true (by first | (with_reducible assumption) | assumption); have q113 : x5_1 < (l0.length : Int) := of_decide_eq_true (by first | (with_reducible assumption) | assumption); obtain ⟨ad113, e113, hx113_0, hx113_1, hx113_2, hx113_3, hx113_4⟩ := at_T42 HR0.out x5_1 p113 q113; (try rw [← Nbq6.out] at hx113_3)
           obtain rfl : ad112 = ad113 := (by injection e113)
           replace p113 := eq_true p113; replace q113 := eq_true q113; go_wp2
           repeat (go_quiet (fail); try go_wp2)
           go_roundg k1
           case measure => have := HK1.out; omega
           case rel => exact ⟨(x5_1), (wrap64 (x6_1 + 1)), (by first | rfl | (simp; done) | (simp [*]; done)), (by first | rfl | (simp; done) | (simp [*]; done)), H', ⟨by have := HK1.out; omega⟩, by repeat (first | exact Drawn0.refl _ | apply Drawn0.step)⟩
         ·rw [if_neg c10] at H; exact absurd H (by simp)
        ·rw [if_neg c9] at H; exact absurd H (by simp)
     ·rw [if_neg c5] at H; exact absurd H (by simp)
    ·rw [if_neg c4] at H; exact absurd H (by simp)
   ·rw [if_neg c3] at H
    have c3b0 : decide (x6_1 < (l0.length : Int)) = false := decide_eq_false c3; clear c3; obtain rfl := Option.some.inj H; go_wp2
    repeat (go_quiet (fail); try go_wp2)
    go_ret
    exact ⟨by first | rfl | (simp; done) | (simp [*]; done), by repeat (first | exact Drawn0.refl _ | apply Drawn0.step)⟩

/-! ### spec_l5Take: function 21 -/
mutual
def spec_l5Take.j1 : Nat → List (S42) → List Bool → Option ((List (S40)) × (List (S42)))
 | 0, _, _ => none
 | k + 1, x0, x6 => spec_l5Take.l1 k x0 x6 (([] : List (S40))) (([] : List (S42))) 0
def spec_l5Take.l1 : Nat → List (S42) → List Bool → List (S40) → List (S42) → Int → Option ((List (S40)) × (List (S42)))
 | 0, _, _, _, _, _ => none
 | k + 1, x0, x6, x9, x10, x11 => if x11 < (x0.length : Int) then (if 0 ≤ x11 then (if x11 < (x6.length : Int) then (if rdOf false x6 x11 = true then (if x9.length < 4398046511104 then (spec_l5Take.j3 k x0 x6 (x9 ++ [(⟨(rd_T42 x0 x11).f0.f0, (rd_T42 x0 x11).f0.f1, (rd_T42 x0 x11).f0.f2, (rd_T42 x0 x11).f0.f3⟩ : S40)]) x10 x11 ((rd_T42 x0 x11).f0.f0) ((rd_T42 x0 x11).f0.f1) ((rd_T42 x0 x11).f0.f2) ((rd_T42 x0 x11).f0.f3) (wrap64 (((rd_T42 x0 x11).f1) - 1))) else (none)) else (spec_l5Take.j3 k x0 x6 x9 x10 x11 ((rd_T42 x0 x11).f0.f0) ((rd_T42 x0 x11).f0.f1) ((rd_T42 x0 x11).f0.f2) ((rd_T42 x0 x11).f0.f3) ((rd_T42 x0 x11).f1))) else (none)) else (none)) else (some (x9, x10))
def spec_l5Take.j3 : Nat → List (S42) → List Bool → List (S40) → List (S42) → Int → Int → Int → Int → Bool → Int → Option ((List (S40)) × (List (S42)))
 | 0, _, _, _, _, _, _, _, _, _, _ => none
 | k + 1, x0, x6, x9, x10, x11, x127000, x127001, x127002, x127003, x127004 => if x127004 > 0 then (if x10.length < 3518437208883 then (spec_l5Take.l1 k x0 x6 x9 (x10 ++ [(⟨(⟨x127000, x127001, x127002, x127003⟩ : S40), x127004⟩ : S42)]) (wrap64 (x11 + 1))) else (none)) else (spec_l5Take.l1 k x0 x6 x9 x10 (wrap64 (x11 + 1)))
def spec_l5Take.l0 : Nat → List (S42) → Int → List Bool → Int → Option ((List (S40)) × (List (S42)))
 | 0, _, _, _, _ => none
 | k + 1, x0, x1, x6, x7 => if x7 < x1 then ((spec_l5Next.f k x0 x6).bind fun t117 => (if t117 < 0 then (spec_l5Take.j1 k x0 x6) else (if 0 ≤ t117 then (if t117 < (x6.length : Int) then (spec_l5Take.l0 k x0 x1 (x6.set (t117 : Int).toNat true) (wrap64 (x7 + 1))) else (none)) else (none)))) else (spec_l5Take.j1 k x0 x6)
end
def spec_l5Take.f (k : Nat) (l0 : List (S42)) (a1 : Int) : Option ((List (S40)) × (List (S42))) := if 0 ≤ (l0.length : Int) then (if ((l0.length : Int) : Int).toNat ≤ 281474976710656 then (spec_l5Take.l0 k l0 a1 (List.replicate ((l0.length : Int) : Int).toNat false) 0) else (none)) else (none)
theorem spec_l5Take.mono_l : ∀ k, (∀ y0 y1, LeO (spec_l5Take.j1 k y0 y1) (spec_l5Take.j1 (k + 1) y0 y1)) ∧ (∀ y0 y1 y2 y3 y4, LeO (spec_l5Take.l1 k y0 y1 y2 y3 y4) (spec_l5Take.l1 (k + 1) y0 y1 y2 y3 y4)) ∧ (∀ y0 y1 y2 y3 y4 y5 y6 y7 y8 y9, LeO (spec_l5Take.j3 k y0 y1 y2 y3 y4 y5 y6 y7 y8 y9) (spec_l5Take.j3 (k + 1) y0 y1 y2 y3 y4 y5 y6 y7 y8 y9)) ∧ (∀ y0 y1 y2 y3, LeO (spec_l5Take.l0 k y0 y1 y2 y3) (spec_l5Take.l0 (k + 1) y0 y1 y2 y3))
 | 0 => ⟨fun _ _ r h => by simp [spec_l5Take.j1] at h, fun _ _ _ _ _ r h => by simp [spec_l5Take.l1] at h, fun _ _ _ _ _ _ _ _ _ _ r h => by simp [spec_l5Take.j3] at h, fun _ _ _ _ r h => by simp [spec_l5Take.l0] at h⟩
 | k + 1 => by
  obtain ⟨ih0, ih1, ih2, ih3⟩ := spec_l5Take.mono_l k; refine ⟨?_, ?_, ?_, ?_⟩
  ·intro y0 y1
   unfold spec_l5Take.j1; repeat' first
   | (with_reducible exact ih0 _ _)
   | (with_reducible exact ih1 _ _ _ _ _)
   | (with_reducible exact ih2 _ _ _ _ _ _ _ _ _ _)
   | (with_reducible exact ih3 _ _ _ _)
   | (with_reducible exact spec_l5Next.mono _ _ _)
   | (with_reducible exact LeO.refl _)
   | (with_reducible exact LeO.none _)
   | (with_reducible refine LeO.ite ?_ ?_)
   | (with_reducible refine LeO.bind ?_ (fun _ => ?_))
   | exact ih0 _ _
   | exact ih1 _ _ _ _ _
   | exact ih2 _ _ _ _ _ _ _ _ _ _
   | exact ih3 _ _ _ _
   | exact spec_l5Next.mono _ _ _
   | exact LeO.none _
   | refine LeO.ite ?_ ?_
   | refine LeO.bind ?_ (fun _ => ?_)
  ·intro y0 y1 y2 y3 y4
   unfold spec_l5Take.l1; repeat' first
   | (with_reducible exact ih0 _ _)
   | (with_reducible exact ih1 _ _ _ _ _)
   | (with_reducible exact ih2 _ _ _ _ _ _ _ _ _ _)
   | (with_reducible exact ih3 _ _ _ _)
   | (with_reducible exact spec_l5Next.mono _ _ _)
   | (with_reducible exact LeO.refl _)
   | (with_reducible exact LeO.none _)
   | (with_reducible refine LeO.ite ?_ ?_)
   | (with_reducible refine LeO.bind ?_ (fun _ => ?_))
   | exact ih0 _ _
   | exact ih1 _ _ _ _ _
   | exact ih2 _ _ _ _ _ _ _ _ _ _
   | exact ih3 _ _ _ _
   | exact spec_l5Next.mono _ _ _
   | exact LeO.none _
   | refine LeO.ite ?_ ?_
   | refine LeO.bind ?_ (fun _ => ?_)
  ·intro y0 y1 y2 y3 y4 y5 y6 y7 y8 y9
   unfold spec_l5Take.j3; repeat' first
   | (with_reducible exact ih0 _ _)
   | (with_reducible exact ih1 _ _ _ _ _)
   | (with_reducible exact ih2 _ _ _ _ _ _ _ _ _ _)
   | (with_reducible exact ih3 _ _ _ _)
   | (with_reducible exact spec_l5Next.mono _ _ _)
   | (with_reducible exact LeO.refl _)
   | (with_reducible exact LeO.none _)
   | (with_reducible refine LeO.ite ?_ ?_)
   | (with_reducible refine LeO.bind ?_ (fun _ => ?_))
   | exact ih0 _ _
   | exact ih1 _ _ _ _ _
   | exact ih2 _ _ _ _ _ _ _ _ _ _
   | exact ih3 _ _ _ _
   | exact spec_l5Next.mono _ _ _
   | exact LeO.none _
   | refine LeO.ite ?_ ?_
   | refine LeO.bind ?_ (fun _ => ?_)
  ·intro y0 y1 y2 y3
   unfold spec_l5Take.l0; repeat' first
   | (with_reducible exact ih0 _ _)
   | (with_reducible exact ih1 _ _ _ _ _)
   | (with_reducible exact ih2 _ _ _ _ _ _ _ _ _ _)
   | (with_reducible exact ih3 _ _ _ _)
   | (with_reducible exact spec_l5Next.mono _ _ _)
   | (with_reducible exact LeO.refl _)
   | (with_reducible exact LeO.none _)
   | (with_reducible refine LeO.ite ?_ ?_)
   | (with_reducible refine LeO.bind ?_ (fun _ => ?_))
   | exact ih0 _ _
   | exact ih1 _ _ _ _ _
   | exact ih2 _ _ _ _ _ _ _ _ _ _
   | exact ih3 _ _ _ _
   | exact spec_l5Next.mono _ _ _
   | exact LeO.none _
   | refine LeO.ite ?_ ?_
   | refine LeO.bind ?_ (fun _ => ?_)
theorem spec_l5Take.mono : ∀ a0 a1 k, LeO (spec_l5Take.f k a0 a1) (spec_l5Take.f (k + 1) a0 a1) := by
 intro a0 a1 k; obtain ⟨ih0, ih1, ih2, ih3⟩ := spec_l5Take.mono_l k; unfold spec_l5Take.f
 repeat' first
   | (with_reducible exact ih0 _ _)
   | (with_reducible exact ih1 _ _ _ _ _)
   | (with_reducible exact ih2 _ _ _ _ _ _ _ _ _ _)
   | (with_reducible exact ih3 _ _ _ _)
   | (with_reducible exact spec_l5Next.mono _ _ _)
   | (with_reducible exact LeO.refl _)
   | (with_reducible exact LeO.none _)
   | (with_reducible refine LeO.ite ?_ ?_)
   | (with_reducible refine LeO.bind ?_ (fun _ => ?_))
   | exact ih0 _ _
   | exact ih1 _ _ _ _ _
   | exact ih2 _ _ _ _ _ _ _ _ _ _
   | exact ih3 _ _ _ _
   | exact spec_l5Next.mono _ _ _
   | exact LeO.none _
   | refine LeO.ite ?_ ?_
   | refine LeO.bind ?_ (fun _ => ?_)
set_option maxHeartbeats 8000000 in
set_option maxRecDepth 100000 in
theorem spec_l5Take.calls (k : Nat) (A0 : Option Addr) (c0 : Nat) (l0 : List (S42)) (a1 : Int) (r1 : List (S40)) (r2 : List (S42)) (w : World) (hr0 : Kd.C k42 w A0 l0.length l0) (hc0 : l0.length ≤ c0) (h : spec_l5Take.f k l0 a1 = some (r1, r2)) :
  Calls Try.prog 21 #[.slice A0 l0.length c0, .int .i64 a1] w fun e w' => ∃ v0_ v1_ : Value, e = .returned (.tuple #[v0_, v1_]) ∧ Kd.R k40 40 w' w.heap.size (fun _ => True) v0_ r1 ∧ Kd.R k42 42 w' w.heap.size (fun _ => True) v1_ r2 ∧ Below w.heap.size w w' := by
 have hu42 := Try.underlying42; have hu40 := Try.underlying40; have HR0 := Zz.mk hr0; have HC0 := Zz.mk hc0; clear hr0 hc0; have HB := Zz.mk (Below.refl w.heap.size w); have H : (if 0 ≤ (l0.length : Int) then (if ((l0.length : Int) : Int).toNat ≤ 281474976710656 then (spec_l5Take.l0 k l0 a1 (List.replicate ((l0.length : Int) : Int).toNat false) 0) else (none)) else (none)) = some (r1, r2) := h; clear h; by_cases c3 : 0 ≤ (l0.length : Int)
 ·rw [if_pos c3] at H
  have c3b0 := eq_true c3; have c3b1 : decide (0 ≤ (l0.length : Int)) = true := decide_eq_true c3; clear c3; by_cases c4 : ((l0.length : Int) : Int).toNat ≤ 281474976710656
  ·rw [if_pos c4] at H
   have c4b0 := eq_true c4; have c4b1 : decide (((l0.length : Int) : Int).toNat ≤ 281474976710656) = true := decide_eq_true c4; clear c4; obtain ⟨y114, hy114⟩ : ∃ y_ : List Bool, y_ = (List.replicate ((l0.length : Int) : Int).toNat false) := ⟨_, rfl⟩
   replace H : (spec_l5Take.l0 k l0 a1 y114 0) = some (r1, r2) := by first | (rw [hy114]; with_reducible exact H) | (replace H := (Option.bind_some _ _).symm.trans H; first | (rw [hy114]; with_reducible exact H) | with_reducible exact H) | with_reducible exact H | (rw [hy114]; exact H) | exact H
   have Ny114 := Zz.mk hy114; clear hy114; have HC5 := Zz.mk H; clear H; go_enter Try.func21, Try.ntmps21; go_upto_block 0 with (first | ((with_reducible refine gate_dst (N := 15) rfl ?_); refine Kd.R_make Kd.bool _ 4 rfl (N := 15) rfl 66 _ _ rfl (l0.length : Int) rfl rfl Try.underlying66 (.bool false) 1 info4 rfl (by decide) (by omega) false (ok := fun _ => True) (okp := fun _ => True) rfl (fun _ hk => hk) trivial (of_decide_eq_true (by first | (with_reducible assumption) | assumption)) (Nat.le_trans (Nat.mul_le_mul_right _ (of_decide_eq_true (by first | (with_reducible assumption) | assumption) : (l0.length : Int).toNat ≤ 281474976710656)) (by omega)) (Below.refl _ _) (Nat.le_refl _) ?_; intro v115 w6 ho7 hb hg_ hnew_; clear hg_ hnew_; (first | rw [← Ny114.out] at ho7 | (simp only [Int.reduceToNat] at ho7; rw [← Ny114.out] at ho7)); have n0_ := Zz.mk (Kd.R_lower ho7 (bwZ (by repeat (first | (with_reducible first | exact HB.out | apply bwA | apply pwN | apply bw1) | exact HB.out)))); have n1_ := Zz.mk (bwP (by repeat (first | (with_reducible first | exact HB.out | apply bwA | apply pwN | apply bw1) | exact HB.out)) hb); clear HB; have HO116 := n0_; have HB := n1_; clear n0_ n1_; clear hb ho7))
   (try simp only [Act.put, List.setIfInBounds_toArray, List.set_cons_zero, List.set_cons_succ])
   go_cut [] (fun wc => ∃ (kq : Nat) (x6_4 : List Bool), Zz (spec_l5Take.j1 kq l0 x6_4 = some (r1, r2)) ∧ Zz (kq ≤ k) ∧ Zz (Kd.R Kd.bool 4 wc w.heap.size (fun _ => True) v115 x6_4) ∧ Zz (Below w.heap.size w wc))
   case first =>
    have H := HC5.out; clear HC5; have H' := Zz.mk H; clear H; go_wp2
    go_loopg [7] k (fun kq v7 w' => ∃ (x6_1 : List Bool) (x7_1 : Int), v7 = .int .i64 x7_1 ∧ Zz (spec_l5Take.l0 kq l0 a1 x6_1 x7_1 = some (r1, r2)) ∧ Zz (kq ≤ k) ∧ Zz (Kd.R Kd.bool 4 w' w.heap.size (fun _ => True) v115 x6_1) ∧ Zz (Below w.heap.size w w'))
    case atStart => exact ⟨(y114), (0), (by first | rfl | (simp; done) | (simp [*]; done)), H', ⟨Nat.le_refl _⟩, ⟨by (with_reducible repeat (first | apply Kd.RA | apply Kd.RN | apply Kd.RD)); exact HO116.out⟩, ⟨by repeat (first | (with_reducible first | exact HB.out | apply bwA | apply pwN | apply bw1) | exact HB.out)⟩⟩
    case round =>
     clear H'; try clear c2
     try clear p2
     try clear c3
     try clear c3b0
     try clear c3b1
     try clear c4
     try clear c4b0
     try clear c4b1
     obtain ⟨x6_1, x7_1, rfl, HA, HK1, HO_6, HB⟩ := hrel; cases gk with
     | zero => exact absurd HA.out (by simp [spec_l5Take.l0])
     | succ k1 =>
      have H := HA.out; clear HA; simp only [spec_l5Take.l0] at H; by_cases c8 : x7_1 < a1
      ·rw [if_pos c8] at H
       have c8b0 : decide (x7_1 < a1) = true := decide_eq_true c8; clear c8; (first | rw [c8b0] | (simp only [i64_w, i32_w]; rw [c8b0]) | skip)
       replace H := Option.bind_eq_some_iff.mp H; obtain ⟨t117, A90, H⟩ := H; replace H : (if t117 < 0 then (spec_l5Take.j1 k1 l0 x6_1) else (if 0 ≤ t117 then (if t117 < (x6_1.length : Int) then (spec_l5Take.l0 k1 l0 a1 (x6_1.set (t117 : Int).toNat true) (wrap64 (x7_1 + 1))) else (none)) else (none))) = some (r1, r2) := H; have A9 := Zz.mk A90; clear A90; by_cases c10 : t117 < 0
       ·rw [if_pos c10] at H
        have c10b0 : decide (t117 < 0) = true := decide_eq_true c10; clear c10; have H' := Zz.mk H; clear H; obtain ⟨Ao11, co11, eo11⟩ := Kd.R_slice HO_6.out; subst eo11; go_wp2_with (first | ((with_reducible refine gate_callee (f := 42) rfl ?_); refine goesL_ (some 23) rfl rfl Try.func42 (by kernel_rfl) rfl #[.slice A0 l0.length c0, .slice Ao11 x6_1.length co11] rfl (by (try simp only [List.map_toArray, List.map_cons, List.map_nil]); first | done | rfl | (simp only [List.length_drop, List.length_take]; rfl)) ?_; (with_reducible refine (spec_l5Next.calls k1 _ _ l0 _ _ x6_1 t117 _ ?side1 ?side2 ?side3 ?side4 A9.out).mono ?_); (case side1 => repeat (first | exact (Kd.C_below HR0.out HB.out) | (with_reducible refine Kd.CA ?_ _) | (with_reducible refine Kd.CN ?_ _) | (with_reducible refine Kd.CD ?_))); (case side2 => exact HC0.out); (case side3 => repeat (first | exact (Kd.R_reads' HO_6.out).2.2 | (with_reducible refine Kd.CA ?_ _) | (with_reducible refine Kd.CN ?_ _) | (with_reducible refine Kd.CD ?_))); (case side4 => exact (Kd.R_reads' HO_6.out).2.1); rintro e w' ⟨rfl, ⟨nd, rfl⟩⟩; refine ⟨_, rfl, ?_⟩; (try clear A9)))
        go_meet
        case rel => exact ⟨_, (x6_1), H', ⟨by have := HK1.out; first | omega | exact Nat.le_refl _⟩, ⟨by (with_reducible repeat (first | apply Kd.RA | apply Kd.RN | apply Kd.RD)); exact HO_6.out⟩, ⟨by repeat (first | (with_reducible first | exact HB.out | apply bwA | apply pwN | apply bw1) | exact HB.out)⟩⟩
       ·rw [if_neg c10] at H
        have c10b0 : decide (t117 < 0) = false := decide_eq_false c10; clear c10; by_cases c12 : 0 ≤ t117
        ·rw [if_pos c12] at H
         have c12b0 : decide (0 ≤ t117) = true := decide_eq_true c12; clear c12; by_cases c13 : t117 < (x6_1.length : Int)
         ·rw [if_pos c13] at H
          have c13b0 : decide (t117 < (x6_1.length : Int)) = true := decide_eq_true c13; clear c13; obtain ⟨y118, hy118⟩ : ∃ y_ : List Bool, y_ = (x6_1.set (t117 : Int).toNat true) := ⟨_, rfl⟩
          replace H : (spec_l5Take.l0 k1 l0 a1 y118 (wrap64 (x7_1 + 1))) = some (r1, r2) := by first | (rw [hy118]; with_reducible exact H) | (replace H := (Option.bind_some _ _).symm.trans H; first | (rw [hy118]; with_reducible exact H) | with_reducible exact H) | with_reducible exact H | (rw [hy118]; exact H) | exact H
          have Ny118 := Zz.mk hy118; clear hy118; have H' := Zz.mk H; clear H; obtain ⟨Ao15, co15, eo15⟩ := Kd.R_slice HO_6.out; subst eo15; go_wp2_with (first | ((with_reducible refine gate_callee (f := 42) rfl ?_); refine goesL_ (some 23) rfl rfl Try.func42 (by kernel_rfl) rfl #[.slice A0 l0.length c0, .slice Ao15 x6_1.length co15] rfl (by (try simp only [List.map_toArray, List.map_cons, List.map_nil]); first | done | rfl | (simp only [List.length_drop, List.length_take]; rfl)) ?_; (with_reducible refine (spec_l5Next.calls k1 _ _ l0 _ _ x6_1 t117 _ ?side1 ?side2 ?side3 ?side4 A9.out).mono ?_); (case side1 => repeat (first | exact (Kd.C_below HR0.out HB.out) | (with_reducible refine Kd.CA ?_ _) | (with_reducible refine Kd.CN ?_ _) | (with_reducible refine Kd.CD ?_))); (case side2 => exact HC0.out); (case side3 => repeat (first | exact (Kd.R_reads' HO_6.out).2.2 | (with_reducible refine Kd.CA ?_ _) | (with_reducible refine Kd.CN ?_ _) | (with_reducible refine Kd.CD ?_))); (case side4 => exact (Kd.R_reads' HO_6.out).2.1); rintro e w' ⟨rfl, ⟨nd, rfl⟩⟩; refine ⟨_, rfl, ?_⟩; (try clear A9); (try (rw [drewN_self wr]; generalize hq_ : World.drewN wr _ = wr; have n0_ : Zz (Kd.R Kd.bool 4 wr w.heap.size (fun _ => True) (.slice Ao15 x6_1.length co15) x6_1) := ⟨by rw [← hq_]; exact (by (with_reducible repeat (first | apply Kd.RA | apply Kd.RN | apply Kd.RD)); exact HO_6.out)⟩; have n1_ : Zz (Below w.heap.size w wr) := ⟨by rw [← hq_]; exact (by repeat (first | (with_reducible first | exact HB.out | apply bwA | apply pwN | apply bw1) | exact HB.out))⟩; clear HO_6 HB hq_; have HO_6 := n0_; have HB := n1_; clear n0_ n1_)); have p14 : 0 ≤ (t117 : Int) := of_decide_eq_true (by first | (with_reducible assumption) | assumption); have q14 : (t117 : Int) < ((x6_1.length : Int) : Int) := of_decide_eq_true (by first | (with_reducible assumption) | assumption); obtain ⟨go14, co14, eo14, gb14, gl14, cl14, HG14⟩ := Kd.R_form HO_6.out (by omega); (first | cases eo14 | (injection eo14 with ea_ en_ ec_; (first | subst ea_ | (injection ea_ with ea_; subst ea_)); subst ec_; clear en_)); have GB14 := Zz.mk gb14; have GG14 := Zz.mk HG14; clear gb14 gl14 HG14; obtain ⟨hx14_0, hf14_0⟩ := Kd.R_celln false HO_6.out (t117 : Int) p14 q14; replace p14 := eq_true p14; replace q14 := eq_true q14; obtain ⟨hy16_, hz16_⟩ := Kd.R_celln false HO_6.out (t117 : Int) (of_decide_eq_true (by first | (with_reducible assumption) | assumption)) (of_decide_eq_true (by first | (with_reducible assumption) | assumption)); have HP16 := Kd.R_putg HO_6.out (t117 : Int) true) | ((with_reducible refine gate_store (t := 4) (p := 28) rfl ?_); refine store_event (t := 4) (p := 28) (v := ?vo_w17) (w1 := (wr.setCell ⟨go14, (t117 : Int).toNat, none⟩ (.bool true))) ?hg ?ho ?hn ?hr ?_; (case ho => rfl); (case hg => rfl); (case hn => rfl); (case hr => first | (go_simp; done) | (go_simp; rfl)); intro w17 hw; have hg : wr.grownBy w17 (some go14) := (by rw [hw]; exact HP16.2); have hp_ : Kd.R Kd.bool 4 w17 w.heap.size (fun _ => True) (.slice (some ⟨go14, 0, none⟩) x6_1.length co15) y118 := (by rw [hw, Ny118.out]; exact HP16.1); clear HP16; have n0_ := Zz.mk (hp_); have n1_ := Zz.mk ((by rw [hw]; exact bwS (HB.out) GB14.out : Below w.heap.size w w17)); clear HO_6; clear HB; have HO_6 := n0_; have HB := n1_; clear n0_ n1_; clear hg hw hp_))
          go_roundg k1
          case measure => have := HK1.out; omega
          case rel => exact ⟨(y118), (wrap64 (x7_1 + 1)), (by first | rfl | (simp; done) | (simp [*]; done)), H', ⟨by have := HK1.out; omega⟩, ⟨by (with_reducible repeat (first | apply Kd.RA | apply Kd.RN | apply Kd.RD)); exact HO_6.out⟩, ⟨by repeat (first | (with_reducible first | exact HB.out | apply bwA | apply pwN | apply bw1) | exact HB.out)⟩⟩
         ·rw [if_neg c13] at H; exact absurd H (by simp)
        ·rw [if_neg c12] at H; exact absurd H (by simp)
      ·rw [if_neg c8] at H
       have c8b0 : decide (x7_1 < a1) = false := decide_eq_false c8; clear c8; (first | rw [c8b0] | (simp only [i64_w, i32_w]; rw [c8b0]) | skip)
       have H' := Zz.mk H; clear H; go_wp2
       go_meet
       case rel => exact ⟨_, (x6_1), H', ⟨by have := HK1.out; first | omega | exact Nat.le_refl _⟩, ⟨by (with_reducible repeat (first | apply Kd.RA | apply Kd.RN | apply Kd.RD)); exact HO_6.out⟩, ⟨by repeat (first | (with_reducible first | exact HB.out | apply bwA | apply pwN | apply bw1) | exact HB.out)⟩⟩
   case rest =>
    clear HC5; try clear c1
    try clear p1
    try clear q1
    try clear hx1
    try clear c2
    try clear p2
    try clear c3
    try clear c3b0
    try clear c3b1
    try clear c4
    try clear c4b0
    try clear c4b1
    try clear p6
    try clear c8
    try clear c8b0
    try clear c10
    try clear c10b0
    try clear c12
    try clear c12b0
    try clear c13
    try clear c13b0
    try clear p14
    try clear q14
    try clear hx14
    try clear hf14
    try clear hx14_0
    try clear p14
    try clear p2
    try clear q14
    obtain ⟨kq, x6_4, HA, HJ4, HO_6, HB⟩ := hcut; cases kq with
    | zero => exact absurd HA.out (by simp [spec_l5Take.j1])
    | succ kj4 =>
     have H := HA.out; clear HA; simp only [spec_l5Take.j1] at H; obtain ⟨y119, hy119⟩ : ∃ y_ : List (S40), y_ = (([] : List (S40))) := ⟨_, rfl⟩
     replace H : (spec_l5Take.l1 kj4 l0 x6_4 y119 (([] : List (S42))) 0) = some (r1, r2) := by first | (rw [hy119]; with_reducible exact H) | (replace H := (Option.bind_some _ _).symm.trans H; first | (rw [hy119]; with_reducible exact H) | with_reducible exact H) | with_reducible exact H | (rw [hy119]; exact H) | exact H
     have Ny119 := Zz.mk hy119; clear hy119; obtain ⟨y122, hy122⟩ : ∃ y_ : List (S42), y_ = (([] : List (S42))) := ⟨_, rfl⟩
     replace H : (spec_l5Take.l1 kj4 l0 x6_4 y119 y122 0) = some (r1, r2) := by first | (rw [hy122]; with_reducible exact H) | (replace H := (Option.bind_some _ _).symm.trans H; first | (rw [hy122]; with_reducible exact H) | with_reducible exact H) | with_reducible exact H | (rw [hy122]; exact H) | exact H
     have Ny122 := Zz.mk hy122; clear hy122; have H' := Zz.mk H; clear H; go_wp2_with (first | ((with_reducible refine gate_dst (N := 29) rfl ?_); refine Kd.R_lit k40 _ 40 ?hg (N := 29) ?hd (xs := ([] : List (S40))) (inner := []) (ok := fun _ => True) (okp := fun _ => True) ?hr ?hp (fun _ hk => hk) trivial (Below.refl _ _) (Nat.le_refl _) (by simp) ?_; (case hd => rfl); (case hg => rfl); (case hr => first | (go_simp; done) | (go_simp; rfl)); (case hp => exact (Reps.none _ _)); intro v120 w18 ho19 hb hg_ hnew_; clear hg_ hnew_; (first | rw [← Ny119.out] at ho19 | (simp only [Int.reduceToNat] at ho19; rw [← Ny119.out] at ho19)); have n0_ := Zz.mk (Kd.R_below (by (with_reducible repeat (first | apply Kd.RA | apply Kd.RN | apply Kd.RD)); exact HO_6.out) hb); have n1_ := Zz.mk (Kd.R_lower ho19 (bwZ (by repeat (first | (with_reducible first | exact HB.out | apply bwA | apply pwN | apply bw1) | exact HB.out)))); have n2_ := Zz.mk (bwP (by repeat (first | (with_reducible first | exact HB.out | apply bwA | apply pwN | apply bw1) | exact HB.out)) hb); clear HO_6; clear HB; have HO_6 := n0_; have HO121 := n1_; have HB := n2_; clear n0_ n1_ n2_; clear hb ho19) | ((with_reducible refine gate_dst (N := 30) rfl ?_); refine Kd.R_lit k42 _ 42 ?hg (N := 30) ?hd (xs := ([] : List (S42))) (inner := []) (ok := fun _ => True) (okp := fun _ => True) ?hr ?hp (fun _ hk => hk) trivial (Below.refl _ _) (Nat.le_refl _) (by simp) ?_; (case hd => rfl); (case hg => rfl); (case hr => first | (go_simp; done) | (go_simp; rfl)); (case hp => exact (Reps.none _ _)); intro v123 w20 ho21 hb hg_ hnew_; clear hg_ hnew_; (first | rw [← Ny122.out] at ho21 | (simp only [Int.reduceToNat] at ho21; rw [← Ny122.out] at ho21)); have n0_ := Zz.mk (Kd.R_below (by (with_reducible repeat (first | apply Kd.RA | apply Kd.RN | apply Kd.RD)); exact HO_6.out) hb); have n1_ := Zz.mk (Kd.R_below (by (with_reducible repeat (first | apply Kd.RA | apply Kd.RN | apply Kd.RD)); exact HO121.out) hb); have n2_ := Zz.mk (Kd.R_lower ho21 (bwZ (by repeat (first | (with_reducible first | exact HB.out | apply bwA | apply pwN | apply bw1) | exact HB.out)))); have n3_ := Zz.mk (bwP (by repeat (first | (with_reducible first | exact HB.out | apply bwA | apply pwN | apply bw1) | exact HB.out)) hb); clear HO_6; clear HO121; clear HB; have HO_6 := n0_; have HO121 := n1_; have HO124 := n2_; have HB := n3_; clear n0_ n1_ n2_ n3_; clear hb ho21))
     go_loopg [9, 10, 11] kj4 (fun kq v9 v10 v11 w' => ∃ (x9_2 : List (S40)) (x10_2 : List (S42)) (x11_2 : Int), v11 = .int .i64 x11_2 ∧ Zz (spec_l5Take.l1 kq l0 x6_4 x9_2 x10_2 x11_2 = some (r1, r2)) ∧ Zz (kq ≤ kj4) ∧ Zz (Kd.R Kd.bool 4 w' w.heap.size (fun _ => True) v115 x6_4) ∧ Zz (Kd.R k40 40 w' w.heap.size (fun _ => True) v9 x9_2) ∧ Zz (Kd.R k42 42 w' w.heap.size (fun _ => True) v10 x10_2) ∧ Zz (Below w.heap.size w w'))
     case atStart => exact ⟨(y119), (y122), (0), (by first | rfl | (simp; done) | (simp [*]; done)), H', ⟨Nat.le_refl _⟩, ⟨by (with_reducible repeat (first | apply Kd.RA | apply Kd.RN | apply Kd.RD)); exact HO_6.out⟩, ⟨by (with_reducible repeat (first | apply Kd.RA | apply Kd.RN | apply Kd.RD)); exact HO121.out⟩, ⟨by (with_reducible repeat (first | apply Kd.RA | apply Kd.RN | apply Kd.RD)); exact HO124.out⟩, ⟨by repeat (first | (with_reducible first | exact HB.out | apply bwA | apply pwN | apply bw1) | exact HB.out)⟩⟩
     case round =>
      clear H'; try clear c1
      try clear p1
      try clear q1
      try clear hx1
      try clear c2
      try clear p2
      try clear c3
      try clear c3b0
      try clear c3b1
      try clear c4
      try clear c4b0
      try clear c4b1
      try clear p6
      try clear c8
      try clear c8b0
      try clear c10
      try clear c10b0
      try clear c12
      try clear c12b0
      try clear c13
      try clear c13b0
      try clear p14
      try clear q14
      try clear hx14
      try clear hf14
      try clear c21
      try clear hx14_0
      try clear p1
      try clear p14
      try clear p2
      try clear p6
      try clear q1
      try clear q14
      obtain ⟨x9_2, x10_2, x11_2, rfl, HA, HK2, HO_6, HO_9, HO_10, HB⟩ := hrel; cases gk with
      | zero => exact absurd HA.out (by simp [spec_l5Take.l1])
      | succ k2 =>
       have H := HA.out; clear HA; simp only [spec_l5Take.l1] at H; by_cases c22 : x11_2 < (l0.length : Int)
       ·rw [if_pos c22] at H
        have c22b0 : decide (x11_2 < (l0.length : Int)) = true := decide_eq_true c22; clear c22; by_cases c23 : 0 ≤ x11_2
        ·rw [if_pos c23] at H
         have c23b0 : decide (0 ≤ x11_2) = true := decide_eq_true c23; clear c23; by_cases c24 : x11_2 < (x6_4.length : Int)
         ·rw [if_pos c24] at H
          have c24b0 : decide (x11_2 < (x6_4.length : Int)) = true := decide_eq_true c24; clear c24; have HC25 := Zz.mk H; clear H; have p125 : 0 ≤ (x11_2 : Int) := of_decide_eq_true (by first | (with_reducible assumption) | assumption); have q125 : x11_2 < (l0.length : Int) := of_decide_eq_true (by first | (with_reducible assumption) | assumption); obtain ⟨ad125, e125, hx125_0, hx125_1, hx125_2, hx125_3, hx125_4⟩ := at_T42 HR0.out x11_2 p125 q125; cases e125
          replace hx125_0 := (bc HB.out hx125_0 :)
          replace hx125_1 := (bc HB.out hx125_1 :)
          replace hx125_2 := (bc HB.out hx125_2 :)
          replace hx125_3 := (bc HB.out hx125_3 :)
          replace hx125_4 := (bc HB.out hx125_4 :)
          replace p125 := eq_true p125; replace q125 := eq_true q125; go_upto_if 44 with (first | ((with_reducible refine gate_dst (N := 12) rfl ?_); refine box_event ?hg (N := 12) ?hd (cs := #[.int .i64 0, .int .i64 0, .int .i64 0, .bool false, .int .i64 0]) (t := 42) ?hr ?_; (case hd => rfl); (case hg => rfl); (case hr => first | (go_simp; done) | (go_simp; rfl)); intro gb126 hg w26 hbox hb; have n0_ := Zz.mk (Kd.R_below (by (with_reducible repeat (first | apply Kd.RA | apply Kd.RN | apply Kd.RD)); exact HO_6.out) hb); have n1_ := Zz.mk (Kd.R_below (by (with_reducible repeat (first | apply Kd.RA | apply Kd.RN | apply Kd.RD)); exact HO_9.out) hb); have n2_ := Zz.mk (Kd.R_below (Kd.R_elderB (by (with_reducible repeat (first | apply Kd.RA | apply Kd.RN | apply Kd.RD)); exact HO_10.out) gb126 (Nat.le_of_eq hg.symm)) hb); have n3_ := Zz.mk (bwP (by repeat (first | (with_reducible first | exact HB.out | apply bwA | apply pwN | apply bw1) | exact HB.out)) hb); have n4_ := Zz.mk (hbox); have n5_ := Zz.mk ((by rw [hg]; exact (bwZ (by repeat (first | (with_reducible first | exact HB.out | apply bwA | apply pwN | apply bw1) | exact HB.out))) : w.heap.size ≤ gb126)); have n6_ := Zz.mk ((by rw [hg]; exact (bwZ (by repeat (first | (with_reducible first | exact HB.out | apply bwA | apply pwN | apply bw1) | exact HB.out))) : w.heap.size ≤ gb126)); clear HO_6; clear HO_9; clear HO_10; clear HB; have HO_6 := n0_; have HO_9 := n1_; have HO_10 := n2_; have HB := n3_; have BK126 := n4_; have GW126 := n5_; have GE126 := n6_; clear n0_ n1_ n2_ n3_ n4_ n5_ n6_; clear hb hbox hg; have hcz27_0 : w26.cell? ⟨gb126, 0, none⟩ = some (.int .i64 0) := (bkC BK126.out 0).trans rfl; have hcz27_1 : w26.cell? ⟨gb126, 1, none⟩ = some (.int .i64 0) := (bkC BK126.out 1).trans rfl; have hcz27_2 : w26.cell? ⟨gb126, 2, none⟩ = some (.int .i64 0) := (bkC BK126.out 2).trans rfl; have hcz27_3 : w26.cell? ⟨gb126, 3, none⟩ = some (.bool false) := (bkC BK126.out 3).trans rfl; have hcz27_4 : w26.cell? ⟨gb126, 4, none⟩ = some (.int .i64 0) := (bkC BK126.out 4).trans rfl; have hfz27_0 := bkF BK126.out 0; have hfz27_1 := bkF BK126.out 1; have hfz27_2 := bkF BK126.out 2; have hfz27_3 := bkF BK126.out 3; have hfz27_4 := bkF BK126.out 4; obtain ⟨Ao28, co28, eo28⟩ := Kd.R_slice HO_6.out; subst eo28; have p127 : 0 ≤ (x11_2 : Int) := of_decide_eq_true (by first | (with_reducible assumption) | assumption); have q127 : x11_2 < (x6_4.length : Int) := of_decide_eq_true (by first | (with_reducible assumption) | assumption); obtain ⟨ad127, e127, hx127_0⟩ := Kd.at_bool (Kd.R_reads' HO_6.out).2.2 x11_2 p127 q127; cases e127; have hn127_0 : ad127.block ≠ gb126 := Kd.own_blk (Kd.R_ne HO_6.out BK126.out (by decide)); have hn127_1 : ad127.block ≠ gb126 := Kd.own_blk (Kd.R_ne HO_6.out BK126.out (by decide)); have hn127_2 : ad127.block ≠ gb126 := Kd.own_blk (Kd.R_ne HO_6.out BK126.out (by decide)); have hn127_3 : ad127.block ≠ gb126 := Kd.own_blk (Kd.R_ne HO_6.out BK126.out (by decide)); have hn127_4 : ad127.block ≠ gb126 := Kd.own_blk (Kd.R_ne HO_6.out BK126.out (by decide)); replace hx127_0 := (cell_far (p := ⟨gb126, 0, none⟩) (by first | (rw [add_block]; exact hn127_0) | (show (Addr.add _ _).block ≠ _; rw [add_block]; exact hn127_0) | exact hn127_0) (.int .i64 ((rd_T42 l0 x11_2).f0.f0))).trans hx127_0; replace hx127_0 := (cell_far (p := ⟨gb126, 1, none⟩) (by first | (rw [add_block]; exact hn127_1) | (show (Addr.add _ _).block ≠ _; rw [add_block]; exact hn127_1) | exact hn127_1) (.int .i64 ((rd_T42 l0 x11_2).f0.f1))).trans hx127_0; replace hx127_0 := (cell_far (p := ⟨gb126, 2, none⟩) (by first | (rw [add_block]; exact hn127_2) | (show (Addr.add _ _).block ≠ _; rw [add_block]; exact hn127_2) | exact hn127_2) (.int .i64 ((rd_T42 l0 x11_2).f0.f2))).trans hx127_0; replace hx127_0 := (cell_far (p := ⟨gb126, 3, none⟩) (by first | (rw [add_block]; exact hn127_3) | (show (Addr.add _ _).block ≠ _; rw [add_block]; exact hn127_3) | exact hn127_3) (.bool ((rd_T42 l0 x11_2).f0.f3))).trans hx127_0; replace hx127_0 := (cell_far (p := ⟨gb126, 4, none⟩) (by first | (rw [add_block]; exact hn127_4) | (show (Addr.add _ _).block ≠ _; rw [add_block]; exact hn127_4) | exact hn127_4) (.int .i64 ((rd_T42 l0 x11_2).f1))).trans hx127_0; clear hn127_0; clear hn127_1; clear hn127_2; clear hn127_3; clear hn127_4; replace p127 := eq_true p127; replace q127 := eq_true q127))
          (try simp only [Act.put, List.setIfInBounds_toArray, List.set_cons_zero, List.set_cons_succ])
          go_cut [9] (fun v9 wc => ∃ (kq : Nat) (x9_24 : List (S40)) (x127004_24 : Int), Zz (spec_l5Take.j3 kq l0 x6_4 x9_24 x10_2 x11_2 ((rd_T42 l0 x11_2).f0.f0) ((rd_T42 l0 x11_2).f0.f1) ((rd_T42 l0 x11_2).f0.f2) ((rd_T42 l0 x11_2).f0.f3) x127004_24 = some (r1, r2)) ∧ Zz (kq ≤ k2) ∧ Zz (Kd.R Kd.bool 4 wc w.heap.size (fun _ => True) (.slice (some ad127) x6_4.length co28) x6_4) ∧ Zz (Kd.R k40 40 wc w.heap.size (fun _ => True) v9 x9_24) ∧ Zz (Kd.R k42 42 wc w.heap.size (fun k_ => k_ ≠ gb126) u10 x10_2) ∧ Zz (wc.heap[gb126]? = some (.cells #[.int .i64 ((rd_T42 l0 x11_2).f0.f0), .int .i64 ((rd_T42 l0 x11_2).f0.f1), .int .i64 ((rd_T42 l0 x11_2).f0.f2), .bool ((rd_T42 l0 x11_2).f0.f3), .int .i64 x127004_24] 42 (0, 0))) ∧ Zz (Below w.heap.size w wc))
          case first =>
           have H := HC25.out; clear HC25; obtain ⟨bq29, hbq29⟩ : ∃ b_ : Bool, b_ = (rdOf false x6_4 x11_2) := ⟨_, rfl⟩
           replace H : (if bq29 = true then (if x9_2.length < 4398046511104 then (spec_l5Take.j3 k2 l0 x6_4 (x9_2 ++ [(⟨(rd_T42 l0 x11_2).f0.f0, (rd_T42 l0 x11_2).f0.f1, (rd_T42 l0 x11_2).f0.f2, (rd_T42 l0 x11_2).f0.f3⟩ : S40)]) x10_2 x11_2 ((rd_T42 l0 x11_2).f0.f0) ((rd_T42 l0 x11_2).f0.f1) ((rd_T42 l0 x11_2).f0.f2) ((rd_T42 l0 x11_2).f0.f3) (wrap64 (((rd_T42 l0 x11_2).f1) - 1))) else (none)) else (spec_l5Take.j3 k2 l0 x6_4 x9_2 x10_2 x11_2 ((rd_T42 l0 x11_2).f0.f0) ((rd_T42 l0 x11_2).f0.f1) ((rd_T42 l0 x11_2).f0.f2) ((rd_T42 l0 x11_2).f0.f3) ((rd_T42 l0 x11_2).f1))) = some (r1, r2) := by rw [← hbq29] at H; exact H
           have Nbq29 := Zz.mk hbq29; clear hbq29; (try rw [← Nbq29.out])
           by_cases c30 : bq29 = true
           ·subst c30
            have H1 : (if x9_2.length < 4398046511104 then (spec_l5Take.j3 k2 l0 x6_4 (x9_2 ++ [(⟨(rd_T42 l0 x11_2).f0.f0, (rd_T42 l0 x11_2).f0.f1, (rd_T42 l0 x11_2).f0.f2, (rd_T42 l0 x11_2).f0.f3⟩ : S40)]) x10_2 x11_2 ((rd_T42 l0 x11_2).f0.f0) ((rd_T42 l0 x11_2).f0.f1) ((rd_T42 l0 x11_2).f0.f2) ((rd_T42 l0 x11_2).f0.f3) (wrap64 (((rd_T42 l0 x11_2).f1) - 1))) else (none)) = some (r1, r2) := by rw [if_pos rfl] at H; exact H
            clear H; have H := H1; clear H1; by_cases c31 : x9_2.length < 4398046511104
            ·rw [if_pos c31] at H
             have LMc31 := Zz.mk c31; clear c31; obtain ⟨y128, hy128⟩ : ∃ y_ : List (S40), y_ = (x9_2 ++ [(⟨(rd_T42 l0 x11_2).f0.f0, (rd_T42 l0 x11_2).f0.f1, (rd_T42 l0 x11_2).f0.f2, (rd_T42 l0 x11_2).f0.f3⟩ : S40)]) := ⟨_, rfl⟩
             replace H : (spec_l5Take.j3 k2 l0 x6_4 y128 x10_2 x11_2 ((rd_T42 l0 x11_2).f0.f0) ((rd_T42 l0 x11_2).f0.f1) ((rd_T42 l0 x11_2).f0.f2) ((rd_T42 l0 x11_2).f0.f3) (wrap64 (((rd_T42 l0 x11_2).f1) - 1))) = some (r1, r2) := by first | (rw [hy128]; with_reducible exact H) | (replace H := (Option.bind_some _ _).symm.trans H; first | (rw [hy128]; with_reducible exact H) | with_reducible exact H) | with_reducible exact H | (rw [hy128]; exact H) | exact H
             have Ny128 := Zz.mk hy128; clear hy128; have H' := Zz.mk H; clear H; have hcz32_0 : w26.cell? ⟨gb126, 0, none⟩ = some (.int .i64 0) := (bkC BK126.out 0).trans rfl; have hcz32_1 : w26.cell? ⟨gb126, 1, none⟩ = some (.int .i64 0) := (bkC BK126.out 1).trans rfl; have hcz32_2 : w26.cell? ⟨gb126, 2, none⟩ = some (.int .i64 0) := (bkC BK126.out 2).trans rfl; have hcz32_3 : w26.cell? ⟨gb126, 3, none⟩ = some (.bool false) := (bkC BK126.out 3).trans rfl; have hcz32_4 : w26.cell? ⟨gb126, 4, none⟩ = some (.int .i64 0) := (bkC BK126.out 4).trans rfl; have hfz32_0 := bkF BK126.out 0; have hfz32_1 := bkF BK126.out 1; have hfz32_2 := bkF BK126.out 2; have hfz32_3 := bkF BK126.out 3; have hfz32_4 := bkF BK126.out 4; go_wp2_with (first | ((with_reducible refine gate_builtin (b := .append) (xs := #[.tmp 45, .tmp 48]) rfl ?_); at_builtin; refine Kd.R_append k40 (w0 := w) w.heap.size rfl (.tmp 45) (.tmp 48) 24 40 (.agg #[(.int .i64 0), (.int .i64 0), (.int .i64 0), (.bool false)]) 32 rfl Try.underlying24 info40 rfl (by decide) (by omega) u9 x9_2 (⟨(rd_T42 l0 x11_2).f0.f0, (rd_T42 l0 x11_2).f0.f1, (rd_T42 l0 x11_2).f0.f2, (rd_T42 l0 x11_2).f0.f3⟩ : S40) [.int .i64 ((rd_T42 l0 x11_2).f0.f0), .int .i64 ((rd_T42 l0 x11_2).f0.f1), .int .i64 ((rd_T42 l0 x11_2).f0.f2), .bool ((rd_T42 l0 x11_2).f0.f3)] (fun _ => True) (fun _ => False) rfl (by first | (go_simp; done) | (go_simp; rfl)) ?aP (fun _ hk => hk.elim) ?aF ?aO ?aB ?aS ?aL ?_; (case aP => exact k40_mkM _ _ _ (⟨(rd_T42 l0 x11_2).f0.f0, (rd_T42 l0 x11_2).f0.f1, (rd_T42 l0 x11_2).f0.f2, (rd_T42 l0 x11_2).f0.f3⟩ : S40)); (case aB => exact (by repeat (first | (with_reducible first | exact HB.out | apply bwA | apply pwN | apply bw1 | refine bwS ?_ GE126.out) | exact HB.out))); (case aF => exact (fun _ _ => trivial)); (case aO => exact (by (with_reducible repeat (first | apply Kd.RA | apply Kd.RN | apply Kd.RD)); exact Kd.R_mono (Kd.R_far (p := ⟨gb126, 4, none⟩) (Kd.R_far (p := ⟨gb126, 3, none⟩) (Kd.R_far (p := ⟨gb126, 2, none⟩) (Kd.R_far (p := ⟨gb126, 1, none⟩) (Kd.R_far (p := ⟨gb126, 0, none⟩) (Kd.R_types HO_9.out BK126.out (by decide)) (fun _ hk => hk.2) (.int .i64 ((rd_T42 l0 x11_2).f0.f0))) (fun _ hk => hk.2) (.int .i64 ((rd_T42 l0 x11_2).f0.f1))) (fun _ hk => hk.2) (.int .i64 ((rd_T42 l0 x11_2).f0.f2))) (fun _ hk => hk.2) (.bool ((rd_T42 l0 x11_2).f0.f3))) (fun _ hk => hk.2) (.int .i64 ((rd_T42 l0 x11_2).f1))) (fun _ hk => trivial))); (case aS => exact (bwZ (by repeat (first | (with_reducible first | exact HB.out | apply bwA | apply pwN | apply bw1 | refine bwS ?_ GE126.out) | exact HB.out)))); (case aL => have := LMc31.out; omega); intro v129 w33 ho hb hg hat; rw [← Ny128.out] at ho; have n0_ := Zz.mk (Kd.R_over' (by (with_reducible repeat (first | apply Kd.RA | apply Kd.RN | apply Kd.RD)); exact (Kd.R_mono (Kd.R_far (p := ⟨gb126, 4, none⟩) (Kd.R_far (p := ⟨gb126, 3, none⟩) (Kd.R_far (p := ⟨gb126, 2, none⟩) (Kd.R_far (p := ⟨gb126, 1, none⟩) (Kd.R_far (p := ⟨gb126, 0, none⟩) (Kd.R_types HO_6.out BK126.out (by decide)) (fun _ hk => hk.2) (.int .i64 ((rd_T42 l0 x11_2).f0.f0))) (fun _ hk => hk.2) (.int .i64 ((rd_T42 l0 x11_2).f0.f1))) (fun _ hk => hk.2) (.int .i64 ((rd_T42 l0 x11_2).f0.f2))) (fun _ hk => hk.2) (.bool ((rd_T42 l0 x11_2).f0.f3))) (fun _ hk => hk.2) (.int .i64 ((rd_T42 l0 x11_2).f1))) (fun _ h_ => h_.1))) (Kd.R_typed (by (with_reducible repeat (first | apply Kd.RA | apply Kd.RN | apply Kd.RD)); exact (Kd.R_mono (Kd.R_far (p := ⟨gb126, 4, none⟩) (Kd.R_far (p := ⟨gb126, 3, none⟩) (Kd.R_far (p := ⟨gb126, 2, none⟩) (Kd.R_far (p := ⟨gb126, 1, none⟩) (Kd.R_far (p := ⟨gb126, 0, none⟩) (Kd.R_types HO_9.out BK126.out (by decide)) (fun _ hk => hk.2) (.int .i64 ((rd_T42 l0 x11_2).f0.f0))) (fun _ hk => hk.2) (.int .i64 ((rd_T42 l0 x11_2).f0.f1))) (fun _ hk => hk.2) (.int .i64 ((rd_T42 l0 x11_2).f0.f2))) (fun _ hk => hk.2) (.bool ((rd_T42 l0 x11_2).f0.f3))) (fun _ hk => hk.2) (.int .i64 ((rd_T42 l0 x11_2).f1))) (fun _ h_ => h_.1)))) (by decide) hg); have n1_ := Zz.mk (Kd.R_over' (by (with_reducible repeat (first | apply Kd.RA | apply Kd.RN | apply Kd.RD)); exact (Kd.R_mono (Kd.R_far (p := ⟨gb126, 4, none⟩) (Kd.R_far (p := ⟨gb126, 3, none⟩) (Kd.R_far (p := ⟨gb126, 2, none⟩) (Kd.R_far (p := ⟨gb126, 1, none⟩) (Kd.R_far (p := ⟨gb126, 0, none⟩) (Kd.R_mono HO_10.out (fun k_ hk => (⟨hk, hk.2⟩ : _ ∧ k_ ≠ gb126))) (fun _ hk => hk.2) (.int .i64 ((rd_T42 l0 x11_2).f0.f0))) (fun _ hk => hk.2) (.int .i64 ((rd_T42 l0 x11_2).f0.f1))) (fun _ hk => hk.2) (.int .i64 ((rd_T42 l0 x11_2).f0.f2))) (fun _ hk => hk.2) (.bool ((rd_T42 l0 x11_2).f0.f3))) (fun _ hk => hk.2) (.int .i64 ((rd_T42 l0 x11_2).f1))) (fun _ h_ => h_.1))) (Kd.R_typed (by (with_reducible repeat (first | apply Kd.RA | apply Kd.RN | apply Kd.RD)); exact (Kd.R_mono (Kd.R_far (p := ⟨gb126, 4, none⟩) (Kd.R_far (p := ⟨gb126, 3, none⟩) (Kd.R_far (p := ⟨gb126, 2, none⟩) (Kd.R_far (p := ⟨gb126, 1, none⟩) (Kd.R_far (p := ⟨gb126, 0, none⟩) (Kd.R_types HO_9.out BK126.out (by decide)) (fun _ hk => hk.2) (.int .i64 ((rd_T42 l0 x11_2).f0.f0))) (fun _ hk => hk.2) (.int .i64 ((rd_T42 l0 x11_2).f0.f1))) (fun _ hk => hk.2) (.int .i64 ((rd_T42 l0 x11_2).f0.f2))) (fun _ hk => hk.2) (.bool ((rd_T42 l0 x11_2).f0.f3))) (fun _ hk => hk.2) (.int .i64 ((rd_T42 l0 x11_2).f1))) (fun _ h_ => h_.1)))) (by decide) hg); have n2_ := Zz.mk (bkG (g := gb126) (o := .cells #[.int .i64 ((rd_T42 l0 x11_2).f0.f0), .int .i64 ((rd_T42 l0 x11_2).f0.f1), .int .i64 ((rd_T42 l0 x11_2).f0.f2), .bool ((rd_T42 l0 x11_2).f0.f3), .int .i64 ((rd_T42 l0 x11_2).f1)] 42 (0, 0)) (by (with_reducible repeat (first | refine bkN ?_ _ | refine bkD ?_ | refine bkA ?_ _)); refine blk_put (cs := #[.int .i64 ((rd_T42 l0 x11_2).f0.f0), .int .i64 ((rd_T42 l0 x11_2).f0.f1), .int .i64 ((rd_T42 l0 x11_2).f0.f2), .bool ((rd_T42 l0 x11_2).f0.f3), .int .i64 0]) ?_ 4 _ rfl; (with_reducible repeat (first | refine bkN ?_ _ | refine bkD ?_ | refine bkA ?_ _)); refine blk_put (cs := #[.int .i64 ((rd_T42 l0 x11_2).f0.f0), .int .i64 ((rd_T42 l0 x11_2).f0.f1), .int .i64 ((rd_T42 l0 x11_2).f0.f2), .bool false, .int .i64 0]) ?_ 3 _ rfl; (with_reducible repeat (first | refine bkN ?_ _ | refine bkD ?_ | refine bkA ?_ _)); refine blk_put (cs := #[.int .i64 ((rd_T42 l0 x11_2).f0.f0), .int .i64 ((rd_T42 l0 x11_2).f0.f1), .int .i64 0, .bool false, .int .i64 0]) ?_ 2 _ rfl; (with_reducible repeat (first | refine bkN ?_ _ | refine bkD ?_ | refine bkA ?_ _)); refine blk_put (cs := #[.int .i64 ((rd_T42 l0 x11_2).f0.f0), .int .i64 0, .int .i64 0, .bool false, .int .i64 0]) ?_ 1 _ rfl; (with_reducible repeat (first | refine bkN ?_ _ | refine bkD ?_ | refine bkA ?_ _)); refine blk_put (cs := #[.int .i64 0, .int .i64 0, .int .i64 0, .bool false, .int .i64 0]) ?_ 0 _ rfl; (with_reducible repeat (first | refine bkN ?_ _ | refine bkD ?_ | refine bkA ?_ _)); exact BK126.out) hg (Kd.R_ne HO_9.out BK126.out (by decide))); have n3_ := Zz.mk (hb); have n4_ := Zz.mk (ho); clear HO_6; clear HO_10; clear BK126; clear HB; clear HO_9; have HO_6 := n0_; have HO_10 := n1_; have BK126 := n2_; have HB := n3_; have HO130 := n4_; clear n0_ n1_ n2_ n3_ n4_; clear ho hb hg hat; have hcz34_0 : w33.cell? ⟨gb126, 0, none⟩ = some (.int .i64 ((rd_T42 l0 x11_2).f0.f0)) := (bkC BK126.out 0).trans rfl; have hcz34_1 : w33.cell? ⟨gb126, 1, none⟩ = some (.int .i64 ((rd_T42 l0 x11_2).f0.f1)) := (bkC BK126.out 1).trans rfl; have hcz34_2 : w33.cell? ⟨gb126, 2, none⟩ = some (.int .i64 ((rd_T42 l0 x11_2).f0.f2)) := (bkC BK126.out 2).trans rfl; have hcz34_3 : w33.cell? ⟨gb126, 3, none⟩ = some (.bool ((rd_T42 l0 x11_2).f0.f3)) := (bkC BK126.out 3).trans rfl; have hcz34_4 : w33.cell? ⟨gb126, 4, none⟩ = some (.int .i64 ((rd_T42 l0 x11_2).f1)) := (bkC BK126.out 4).trans rfl; have hfz34_0 := bkF BK126.out 0; have hfz34_1 := bkF BK126.out 1; have hfz34_2 := bkF BK126.out 2; have hfz34_3 := bkF BK126.out 3; have hfz34_4 := bkF BK126.out 4))
             go_meet
             case rel => exact ⟨_, (y128), (wrap64 (((rd_T42 l0 x11_2).f1) - 1)), H', ⟨by have := HJ4.out; have := HK2.out; first | omega | exact Nat.le_refl _⟩, ⟨by (with_reducible repeat (first | apply Kd.RA | apply Kd.RN | apply Kd.RD)); exact Kd.R_mono (Kd.R_far (p := ⟨gb126, 4, none⟩) (Kd.R_types HO_6.out BK126.out (by decide)) (fun _ hk => hk.2) (.int .i64 (wrap64 (((rd_T42 l0 x11_2).f1) - 1)))) (fun _ hk => trivial)⟩, ⟨by (with_reducible repeat (first | apply Kd.RA | apply Kd.RN | apply Kd.RD)); exact Kd.R_mono (Kd.R_far (p := ⟨gb126, 4, none⟩) (Kd.R_types HO130.out BK126.out (by decide)) (fun _ hk => hk.2) (.int .i64 (wrap64 (((rd_T42 l0 x11_2).f1) - 1)))) (fun _ hk => trivial)⟩, ⟨by (with_reducible repeat (first | apply Kd.RA | apply Kd.RN | apply Kd.RD)); exact Kd.R_mono (Kd.R_far (p := ⟨gb126, 4, none⟩) (Kd.R_mono HO_10.out (fun k_ hk => (⟨hk, hk.2⟩ : _ ∧ k_ ≠ gb126))) (fun _ hk => hk.2) (.int .i64 (wrap64 (((rd_T42 l0 x11_2).f1) - 1)))) (fun _ hk => hk.1.2)⟩, ⟨by (with_reducible repeat (first | refine bkN ?_ _ | refine bkD ?_ | refine bkA ?_ _)); refine blk_put (cs := #[.int .i64 ((rd_T42 l0 x11_2).f0.f0), .int .i64 ((rd_T42 l0 x11_2).f0.f1), .int .i64 ((rd_T42 l0 x11_2).f0.f2), .bool ((rd_T42 l0 x11_2).f0.f3), .int .i64 ((rd_T42 l0 x11_2).f1)]) ?_ 4 _ rfl; (with_reducible repeat (first | refine bkN ?_ _ | refine bkD ?_ | refine bkA ?_ _)); exact BK126.out⟩, ⟨by repeat (first | (with_reducible first | exact HB.out | apply bwA | apply pwN | apply bw1 | refine bwS ?_ GE126.out) | exact HB.out)⟩⟩
            ·rw [if_neg c31] at H; exact absurd H (by simp)
           ·replace c30 := Bool.eq_false_iff.mpr c30
            subst c30; have H1 : (spec_l5Take.j3 k2 l0 x6_4 x9_2 x10_2 x11_2 ((rd_T42 l0 x11_2).f0.f0) ((rd_T42 l0 x11_2).f0.f1) ((rd_T42 l0 x11_2).f0.f2) ((rd_T42 l0 x11_2).f0.f3) ((rd_T42 l0 x11_2).f1)) = some (r1, r2) := by rw [if_neg (show ¬ (false = true) by decide)] at H; exact H
            clear H; have H := H1; clear H1; have H' := Zz.mk H; clear H; go_wp2
            go_meet
            case rel => exact ⟨_, (x9_2), ((rd_T42 l0 x11_2).f1), H', ⟨by have := HJ4.out; have := HK2.out; first | omega | exact Nat.le_refl _⟩, ⟨by (with_reducible repeat (first | apply Kd.RA | apply Kd.RN | apply Kd.RD)); exact Kd.R_mono (Kd.R_far (p := ⟨gb126, 4, none⟩) (Kd.R_far (p := ⟨gb126, 3, none⟩) (Kd.R_far (p := ⟨gb126, 2, none⟩) (Kd.R_far (p := ⟨gb126, 1, none⟩) (Kd.R_far (p := ⟨gb126, 0, none⟩) (Kd.R_types HO_6.out BK126.out (by decide)) (fun _ hk => hk.2) (.int .i64 ((rd_T42 l0 x11_2).f0.f0))) (fun _ hk => hk.2) (.int .i64 ((rd_T42 l0 x11_2).f0.f1))) (fun _ hk => hk.2) (.int .i64 ((rd_T42 l0 x11_2).f0.f2))) (fun _ hk => hk.2) (.bool ((rd_T42 l0 x11_2).f0.f3))) (fun _ hk => hk.2) (.int .i64 ((rd_T42 l0 x11_2).f1))) (fun _ hk => trivial)⟩, ⟨by (with_reducible repeat (first | apply Kd.RA | apply Kd.RN | apply Kd.RD)); exact Kd.R_mono (Kd.R_far (p := ⟨gb126, 4, none⟩) (Kd.R_far (p := ⟨gb126, 3, none⟩) (Kd.R_far (p := ⟨gb126, 2, none⟩) (Kd.R_far (p := ⟨gb126, 1, none⟩) (Kd.R_far (p := ⟨gb126, 0, none⟩) (Kd.R_types HO_9.out BK126.out (by decide)) (fun _ hk => hk.2) (.int .i64 ((rd_T42 l0 x11_2).f0.f0))) (fun _ hk => hk.2) (.int .i64 ((rd_T42 l0 x11_2).f0.f1))) (fun _ hk => hk.2) (.int .i64 ((rd_T42 l0 x11_2).f0.f2))) (fun _ hk => hk.2) (.bool ((rd_T42 l0 x11_2).f0.f3))) (fun _ hk => hk.2) (.int .i64 ((rd_T42 l0 x11_2).f1))) (fun _ hk => trivial)⟩, ⟨by (with_reducible repeat (first | apply Kd.RA | apply Kd.RN | apply Kd.RD)); exact Kd.R_mono (Kd.R_far (p := ⟨gb126, 4, none⟩) (Kd.R_far (p := ⟨gb126, 3, none⟩) (Kd.R_far (p := ⟨gb126, 2, none⟩) (Kd.R_far (p := ⟨gb126, 1, none⟩) (Kd.R_far (p := ⟨gb126, 0, none⟩) (Kd.R_mono HO_10.out (fun k_ hk => (⟨hk, hk.2⟩ : _ ∧ k_ ≠ gb126))) (fun _ hk => hk.2) (.int .i64 ((rd_T42 l0 x11_2).f0.f0))) (fun _ hk => hk.2) (.int .i64 ((rd_T42 l0 x11_2).f0.f1))) (fun _ hk => hk.2) (.int .i64 ((rd_T42 l0 x11_2).f0.f2))) (fun _ hk => hk.2) (.bool ((rd_T42 l0 x11_2).f0.f3))) (fun _ hk => hk.2) (.int .i64 ((rd_T42 l0 x11_2).f1))) (fun _ hk => hk.1.2)⟩, ⟨by (with_reducible repeat (first | refine bkN ?_ _ | refine bkD ?_ | refine bkA ?_ _)); refine blk_put (cs := #[.int .i64 ((rd_T42 l0 x11_2).f0.f0), .int .i64 ((rd_T42 l0 x11_2).f0.f1), .int .i64 ((rd_T42 l0 x11_2).f0.f2), .bool ((rd_T42 l0 x11_2).f0.f3), .int .i64 0]) ?_ 4 _ rfl; (with_reducible repeat (first | refine bkN ?_ _ | refine bkD ?_ | refine bkA ?_ _)); refine blk_put (cs := #[.int .i64 ((rd_T42 l0 x11_2).f0.f0), .int .i64 ((rd_T42 l0 x11_2).f0.f1), .int .i64 ((rd_T42 l0 x11_2).f0.f2), .bool false, .int .i64 0]) ?_ 3 _ rfl; (with_reducible repeat (first | refine bkN ?_ _ | refine bkD ?_ | refine bkA ?_ _)); refine blk_put (cs := #[.int .i64 ((rd_T42 l0 x11_2).f0.f0), .int .i64 ((rd_T42 l0 x11_2).f0.f1), .int .i64 0, .bool false, .int .i64 0]) ?_ 2 _ rfl; (with_reducible repeat (first | refine bkN ?_ _ | refine bkD ?_ | refine bkA ?_ _)); refine blk_put (cs := #[.int .i64 ((rd_T42 l0 x11_2).f0.f0), .int .i64 0, .int .i64 0, .bool false, .int .i64 0]) ?_ 1 _ rfl; (with_reducible repeat (first | refine bkN ?_ _ | refine bkD ?_ | refine bkA ?_ _)); refine blk_put (cs := #[.int .i64 0, .int .i64 0, .int .i64 0, .bool false, .int .i64 0]) ?_ 0 _ rfl; (with_reducible repeat (first | refine bkN ?_ _ | refine bkD ?_ | refine bkA ?_ _)); exact BK126.out⟩, ⟨by repeat (first | (with_reducible first | exact HB.out | apply bwA | apply pwN | apply bw1 | refine bwS ?_ GE126.out) | exact HB.out)⟩⟩
          case rest =>
           clear HC25; try clear c1
           try clear p1
           try clear q1
           try clear hx1
           try clear c2
           try clear p2
           try clear q2
           try clear c3
           try clear c3b0
           try clear c3b1
           try clear c4
           try clear c4b0
           try clear c4b1
           try clear p6
           try clear c8
           try clear c8b0
           try clear c10
           try clear c10b0
           try clear c12
           try clear c12b0
           try clear p12
           try clear q12
           try clear hx12
           try clear c13
           try clear c13b0
           try clear p14
           try clear q14
           try clear hx14
           try clear hf14
           try clear c21
           try clear c22
           try clear c22b0
           try clear c23
           try clear c23b0
           try clear c24
           try clear c24b0
           try clear q29
           try clear c30
           try clear c31
           try clear hcz27_0
           try clear hcz27_1
           try clear hcz27_2
           try clear hcz27_3
           try clear hcz27_4
           try clear hcz32_0
           try clear hcz32_1
           try clear hcz32_2
           try clear hcz32_3
           try clear hcz32_4
           try clear hcz34_0
           try clear hcz34_1
           try clear hcz34_2
           try clear hcz34_3
           try clear hcz34_4
           try clear hfz27_0
           try clear hfz27_1
           try clear hfz27_2
           try clear hfz27_3
           try clear hfz27_4
           try clear hfz32_0
           try clear hfz32_1
           try clear hfz32_2
           try clear hfz32_3
           try clear hfz32_4
           try clear hfz34_0
           try clear hfz34_1
           try clear hfz34_2
           try clear hfz34_3
           try clear hfz34_4
           try clear hx125_0
           try clear hx125_1
           try clear hx125_2
           try clear hx125_3
           try clear hx125_4
           try clear hx127_0
           try clear hx14_0
           try clear p1
           try clear p125
           try clear p127
           try clear p14
           try clear p2
           try clear p6
           try clear q1
           try clear q125
           try clear q127
           try clear q14
           obtain ⟨kq, x9_24, x127004_24, HA, HJ24, HO_6, HO_9, HO_10, BK126, HB⟩ := hcut; cases kq with
           | zero => exact absurd HA.out (by simp [spec_l5Take.j3])
           | succ kj24 =>
            have H := HA.out; clear HA; simp only [spec_l5Take.j3] at H; by_cases c35 : x127004_24 > 0
            ·rw [if_pos c35] at H
             have c35b0 : decide (0 < x127004_24) = true := decide_eq_true c35; clear c35; by_cases c36 : x10_2.length < 3518437208883
             ·rw [if_pos c36] at H
              have LMc36 := Zz.mk c36; clear c36; obtain ⟨y131, hy131⟩ : ∃ y_ : List (S42), y_ = (x10_2 ++ [(⟨(⟨((rd_T42 l0 x11_2).f0.f0), ((rd_T42 l0 x11_2).f0.f1), ((rd_T42 l0 x11_2).f0.f2), ((rd_T42 l0 x11_2).f0.f3)⟩ : S40), x127004_24⟩ : S42)]) := ⟨_, rfl⟩
              replace H : (spec_l5Take.l1 kj24 l0 x6_4 x9_24 y131 (wrap64 (x11_2 + 1))) = some (r1, r2) := by first | (rw [hy131]; with_reducible exact H) | (replace H := (Option.bind_some _ _).symm.trans H; first | (rw [hy131]; with_reducible exact H) | with_reducible exact H) | with_reducible exact H | (rw [hy131]; exact H) | exact H
              have Ny131 := Zz.mk hy131; clear hy131; have H' := Zz.mk H; clear H; have hcz37_0 : wc.cell? ⟨gb126, 0, none⟩ = some (.int .i64 ((rd_T42 l0 x11_2).f0.f0)) := (bkC BK126.out 0).trans rfl; have hcz37_1 : wc.cell? ⟨gb126, 1, none⟩ = some (.int .i64 ((rd_T42 l0 x11_2).f0.f1)) := (bkC BK126.out 1).trans rfl; have hcz37_2 : wc.cell? ⟨gb126, 2, none⟩ = some (.int .i64 ((rd_T42 l0 x11_2).f0.f2)) := (bkC BK126.out 2).trans rfl; have hcz37_3 : wc.cell? ⟨gb126, 3, none⟩ = some (.bool ((rd_T42 l0 x11_2).f0.f3)) := (bkC BK126.out 3).trans rfl; have hcz37_4 : wc.cell? ⟨gb126, 4, none⟩ = some (.int .i64 x127004_24) := (bkC BK126.out 4).trans rfl; have hfz37_0 := bkF BK126.out 0; have hfz37_1 := bkF BK126.out 1; have hfz37_2 := bkF BK126.out 2; have hfz37_3 := bkF BK126.out 3; have hfz37_4 := bkF BK126.out 4; go_wp2_with (first | ((with_reducible refine gate_builtin (b := .append) (xs := #[.tmp 57, .tmp 59]) rfl ?_); at_builtin; refine Kd.R_append k42 (w0 := w) w.heap.size rfl (.tmp 57) (.tmp 59) 25 42 (.agg #[(.int .i64 0), (.int .i64 0), (.int .i64 0), (.bool false), (.int .i64 0)]) 40 rfl Try.underlying25 info42 rfl (by decide) (by omega) u10 x10_2 (⟨(⟨((rd_T42 l0 x11_2).f0.f0), ((rd_T42 l0 x11_2).f0.f1), ((rd_T42 l0 x11_2).f0.f2), ((rd_T42 l0 x11_2).f0.f3)⟩ : S40), x127004_24⟩ : S42) [.int .i64 ((rd_T42 l0 x11_2).f0.f0), .int .i64 ((rd_T42 l0 x11_2).f0.f1), .int .i64 ((rd_T42 l0 x11_2).f0.f2), .bool ((rd_T42 l0 x11_2).f0.f3), .int .i64 x127004_24] (fun k_ => k_ ≠ gb126) (fun _ => False) rfl rfl ?aP (fun _ hk => hk.elim) ?aF ?aO ?aB ?aS ?aL ?_; (case aP => exact k42_mkM _ _ _ (⟨(⟨((rd_T42 l0 x11_2).f0.f0), ((rd_T42 l0 x11_2).f0.f1), ((rd_T42 l0 x11_2).f0.f2), ((rd_T42 l0 x11_2).f0.f3)⟩ : S40), x127004_24⟩ : S42)); (case aB => exact (by repeat (first | (with_reducible first | exact HB.out | apply bwA | apply pwN | apply bw1 | refine bwS ?_ GE126.out) | exact HB.out))); (case aF => exact (fun k_ hk => Kd.freshB (g := gb126) (o := .cells #[.int .i64 ((rd_T42 l0 x11_2).f0.f0), .int .i64 ((rd_T42 l0 x11_2).f0.f1), .int .i64 ((rd_T42 l0 x11_2).f0.f2), .bool ((rd_T42 l0 x11_2).f0.f3), .int .i64 x127004_24] 42 (0, 0)) (by (with_reducible repeat (first | refine bkN ?_ _ | refine bkD ?_ | refine bkA ?_ _)); exact BK126.out) k_ hk)); (case aO => exact (by (with_reducible repeat (first | apply Kd.RA | apply Kd.RN | apply Kd.RD)); exact HO_10.out)); (case aS => exact (bwZ (by repeat (first | (with_reducible first | exact HB.out | apply bwA | apply pwN | apply bw1 | refine bwS ?_ GE126.out) | exact HB.out)))); (case aL => have := LMc36.out; omega); intro v132 w38 ho hb hg hat; rw [← Ny131.out] at ho; have n0_ := Zz.mk (Kd.R_over' (by (with_reducible repeat (first | apply Kd.RA | apply Kd.RN | apply Kd.RD)); exact HO_6.out) (Kd.R_typed (by (with_reducible repeat (first | apply Kd.RA | apply Kd.RN | apply Kd.RD)); exact HO_10.out)) (by decide) hg); have n1_ := Zz.mk (Kd.R_over' (by (with_reducible repeat (first | apply Kd.RA | apply Kd.RN | apply Kd.RD)); exact HO_9.out) (Kd.R_typed (by (with_reducible repeat (first | apply Kd.RA | apply Kd.RN | apply Kd.RD)); exact HO_10.out)) (by decide) hg); have n2_ := Zz.mk (bkG (g := gb126) (o := .cells #[.int .i64 ((rd_T42 l0 x11_2).f0.f0), .int .i64 ((rd_T42 l0 x11_2).f0.f1), .int .i64 ((rd_T42 l0 x11_2).f0.f2), .bool ((rd_T42 l0 x11_2).f0.f3), .int .i64 x127004_24] 42 (0, 0)) (by (with_reducible repeat (first | refine bkN ?_ _ | refine bkD ?_ | refine bkA ?_ _)); exact BK126.out) hg (Kd.R_away HO_10.out (fun _ hk => hk))); have n3_ := Zz.mk (hb); have n4_ := Zz.mk (ho); clear HO_6; clear HO_9; clear BK126; clear HB; clear HO_10; have HO_6 := n0_; have HO_9 := n1_; have BK126 := n2_; have HB := n3_; have HO133 := n4_; clear n0_ n1_ n2_ n3_ n4_; clear ho hb hg hat))
              go_roundg kj24
              case measure => have := HJ4.out; have := HK2.out; have := HJ24.out; omega
              case rel => exact ⟨(x9_24), (y131), (wrap64 (x11_2 + 1)), (by first | rfl | (simp; done) | (simp [*]; done)), H', ⟨by have := HJ4.out; have := HK2.out; have := HJ24.out; omega⟩, ⟨by (with_reducible repeat (first | apply Kd.RA | apply Kd.RN | apply Kd.RD)); exact HO_6.out⟩, ⟨by (with_reducible repeat (first | apply Kd.RA | apply Kd.RN | apply Kd.RD)); exact HO_9.out⟩, ⟨by (with_reducible repeat (first | apply Kd.RA | apply Kd.RN | apply Kd.RD)); exact Kd.R_mono HO133.out (fun _ hk => trivial)⟩, ⟨by repeat (first | (with_reducible first | exact HB.out | apply bwA | apply pwN | apply bw1 | refine bwS ?_ GE126.out) | exact HB.out)⟩⟩
             ·rw [if_neg c36] at H; exact absurd H (by simp)
            ·rw [if_neg c35] at H
             have c35b0 : decide (0 < x127004_24) = false := decide_eq_false c35; clear c35; have H' := Zz.mk H; clear H; have hcz39_0 : wc.cell? ⟨gb126, 0, none⟩ = some (.int .i64 ((rd_T42 l0 x11_2).f0.f0)) := (bkC BK126.out 0).trans rfl; have hcz39_1 : wc.cell? ⟨gb126, 1, none⟩ = some (.int .i64 ((rd_T42 l0 x11_2).f0.f1)) := (bkC BK126.out 1).trans rfl; have hcz39_2 : wc.cell? ⟨gb126, 2, none⟩ = some (.int .i64 ((rd_T42 l0 x11_2).f0.f2)) := (bkC BK126.out 2).trans rfl; have hcz39_3 : wc.cell? ⟨gb126, 3, none⟩ = some (.bool ((rd_T42 l0 x11_2).f0.f3)) := (bkC BK126.out 3).trans rfl; have hcz39_4 : wc.cell? ⟨gb126, 4, none⟩ = some (.int .i64 x127004_24) := (bkC BK126.out 4).trans rfl; have hfz39_0 := bkF BK126.out 0; have hfz39_1 := bkF BK126.out 1; have hfz39_2 := bkF BK126.out 2; have hfz39_3 := bkF BK126.out 3; have hfz39_4 := bkF BK126.out 4; go_wp2
             go_roundg kj24
             case measure => have := HJ4.out; have := HK2.out; have := HJ24.out; omega
             case rel => exact ⟨(x9_24), (x10_2), (wrap64 (x11_2 + 1)), (by first | rfl | (simp; done) | (simp [*]; done)), H', ⟨by have := HJ4.out; have := HK2.out; have := HJ24.out; omega⟩, ⟨by (with_reducible repeat (first | apply Kd.RA | apply Kd.RN | apply Kd.RD)); exact HO_6.out⟩, ⟨by (with_reducible repeat (first | apply Kd.RA | apply Kd.RN | apply Kd.RD)); exact HO_9.out⟩, ⟨by (with_reducible repeat (first | apply Kd.RA | apply Kd.RN | apply Kd.RD)); exact Kd.R_mono HO_10.out (fun _ hk => trivial)⟩, ⟨by repeat (first | (with_reducible first | exact HB.out | apply bwA | apply pwN | apply bw1 | refine bwS ?_ GE126.out) | exact HB.out)⟩⟩
         ·rw [if_neg c24] at H; exact absurd H (by simp)
        ·rw [if_neg c23] at H; exact absurd H (by simp)
       ·rw [if_neg c22] at H
        have c22b0 : decide (x11_2 < (l0.length : Int)) = false := decide_eq_false c22; clear c22; simp only [Option.some.injEq, Prod.mk.injEq] at H; obtain ⟨rfl, rfl⟩ := H; go_wp2
        go_ret2
        exact ⟨_, _, by first | rfl | (simp [eN, eS] <;> rfl) | (simp [*, eN, eS] <;> rfl), by (with_reducible repeat (first | apply Kd.RA | apply Kd.RN | apply Kd.RD)); exact HO_9.out, by (with_reducible repeat (first | apply Kd.RA | apply Kd.RN | apply Kd.RD)); exact HO_10.out, by repeat (first | (with_reducible first | exact HB.out | apply bwA | apply pwN | apply bw1) | exact HB.out)⟩
  ·rw [if_neg c4] at H; exact absurd H (by simp)
 ·rw [if_neg c3] at H; exact absurd H (by simp)

/-! ### spec_CastTake: function 7 -/
def spec_CastTake.f (k : Nat) (l0 : List (S42)) (a1 : Int) : Option ((List (S40)) × (List (S42))) := (spec_CastOk.f k l0).bind fun t134 => (if t134 = true then ((spec_l5Take.f k l0 a1).bind fun bt135 => (some (bt135.1, bt135.2))) else (some ((([] : List (S40))), (([] : List (S42))))))
theorem spec_CastTake.mono : ∀ a0 a1 k, LeO (spec_CastTake.f k a0 a1) (spec_CastTake.f (k + 1) a0 a1) := by
 intro a0 a1 k; unfold spec_CastTake.f
 repeat' first
   | (with_reducible exact spec_CastOk.mono _ _)
   | (with_reducible exact spec_l5Take.mono _ _ _)
   | (with_reducible exact LeO.refl _)
   | (with_reducible exact LeO.none _)
   | (with_reducible refine LeO.ite ?_ ?_)
   | (with_reducible refine LeO.bind ?_ (fun _ => ?_))
   | exact spec_CastOk.mono _ _
   | exact spec_l5Take.mono _ _ _
   | exact LeO.none _
   | refine LeO.ite ?_ ?_
   | refine LeO.bind ?_ (fun _ => ?_)
set_option maxHeartbeats 8000000 in
set_option maxRecDepth 100000 in
theorem spec_CastTake.calls (k : Nat) (A0 : Option Addr) (c0 : Nat) (l0 : List (S42)) (a1 : Int) (r1 : List (S40)) (r2 : List (S42)) (w : World) (hr0 : Kd.C k42 w A0 l0.length l0) (hc0 : l0.length ≤ c0) (h : spec_CastTake.f k l0 a1 = some (r1, r2)) :
  Calls Try.prog 7 #[.slice A0 l0.length c0, .int .i64 a1] w fun e w' => ∃ v0_ v1_ : Value, e = .returned (.tuple #[v0_, v1_]) ∧ Kd.R k40 40 w' w.heap.size (fun _ => True) v0_ r1 ∧ Kd.R k42 42 w' w.heap.size (fun _ => True) v1_ r2 ∧ Below w.heap.size w w' := by
 have HR0 := Zz.mk hr0; have HC0 := Zz.mk hc0; clear hr0 hc0; have HB := Zz.mk (Below.refl w.heap.size w); have H : ((spec_CastOk.f k l0).bind fun t134 => (if t134 = true then ((spec_l5Take.f k l0 a1).bind fun bt135 => (some (bt135.1, bt135.2))) else (some ((([] : List (S40))), (([] : List (S42))))))) = some (r1, r2) := h; clear h; replace H := Option.bind_eq_some_iff.mp H; obtain ⟨t134, A30, H⟩ := H; replace H : (if t134 = true then ((spec_l5Take.f k l0 a1).bind fun bt135 => (some (bt135.1, bt135.2))) else (some ((([] : List (S40))), (([] : List (S42)))))) = some (r1, r2) := H; have A3 := Zz.mk A30; clear A30; by_cases c4 : t134 = true
 ·subst c4
  have H1 : ((spec_l5Take.f k l0 a1).bind fun bt135 => (some (bt135.1, bt135.2))) = some (r1, r2) := by rw [if_pos rfl] at H; exact H
  clear H; have H := H1; clear H1; replace H := Option.bind_eq_some_iff.mp H; obtain ⟨⟨t135, t136⟩, A50, H⟩ := H; replace H : (some (t135, t136)) = some (r1, r2) := H; have A5 := Zz.mk A50; clear A50; simp only [Option.some.injEq, Prod.mk.injEq] at H; obtain ⟨rfl, rfl⟩ := H; go_enter Try.func7, Try.ntmps7; go_wp2_with (first | ((with_reducible refine gate_callee (f := 20) rfl ?_); refine goesL_ (some 7) rfl rfl Try.func20 (by kernel_rfl) rfl #[.slice A0 l0.length c0] rfl (by (try simp only [List.map_toArray, List.map_cons, List.map_nil]); first | done | rfl | (simp only [List.length_drop, List.length_take]; rfl)) ?_; (with_reducible refine (spec_CastOk.calls k _ _ l0 true _ ?side1 ?side2 A3.out).mono ?_); (case side1 => repeat (first | exact HR0.out | (with_reducible refine Kd.CA ?_ _) | (with_reducible refine Kd.CN ?_ _) | (with_reducible refine Kd.CD ?_))); (case side2 => exact HC0.out); rintro e w6 ⟨rfl, hb⟩; refine ⟨_, rfl, ?_⟩; have n0_ := Zz.mk (bwP (by repeat (first | (with_reducible first | exact HB.out | apply bwA | apply pwN | apply bw1) | exact HB.out)) hb); clear HB; have HB := n0_; clear n0_; (try clear hb); (try clear A3)) | ((with_reducible refine gate_callee (f := 21) rfl ?_); refine goesL_ (some 13) rfl rfl Try.func21 (by kernel_rfl) rfl #[.slice A0 l0.length c0, .int .i64 a1] rfl (by (try simp only [List.map_toArray, List.map_cons, List.map_nil]); first | done | rfl | (simp only [List.length_drop, List.length_take]; rfl)) ?_; (with_reducible refine (spec_l5Take.calls k _ _ l0 a1 t135 t136 _ ?side1 ?side2 A5.out).mono ?_); (case side1 => repeat (first | exact (Kd.C_below HR0.out HB.out) | (with_reducible refine Kd.CA ?_ _) | (with_reducible refine Kd.CN ?_ _) | (with_reducible refine Kd.CD ?_))); (case side2 => exact HC0.out); rintro e w7 ⟨v137, v139, rfl, ho0, ho1, hb⟩; refine ⟨_, rfl, ?_⟩; have n0_ := Zz.mk (Kd.R_lower ho0 (bwZ (by repeat (first | (with_reducible first | exact HB.out | apply bwA | apply pwN | apply bw1) | exact HB.out)))); have n1_ := Zz.mk (Kd.R_lower ho1 (bwZ (by repeat (first | (with_reducible first | exact HB.out | apply bwA | apply pwN | apply bw1) | exact HB.out)))); have n2_ := Zz.mk (bwP (by repeat (first | (with_reducible first | exact HB.out | apply bwA | apply pwN | apply bw1) | exact HB.out)) hb); clear HB; have HO138 := n0_; have HO140 := n1_; have HB := n2_; clear n0_ n1_ n2_; (try clear hb); (try clear ho0); (try clear ho1); (try clear A5)))
  go_ret2
  exact ⟨_, _, by first | rfl | (simp [eN, eS] <;> rfl) | (simp [*, eN, eS] <;> rfl), by (with_reducible repeat (first | apply Kd.RA | apply Kd.RN | apply Kd.RD)); exact HO138.out, by (with_reducible repeat (first | apply Kd.RA | apply Kd.RN | apply Kd.RD)); exact HO140.out, by repeat (first | (with_reducible first | exact HB.out | apply bwA | apply pwN | apply bw1) | exact HB.out)⟩
 ·replace c4 := Bool.eq_false_iff.mpr c4
  subst c4; have H1 : (some ((([] : List (S40))), (([] : List (S42))))) = some (r1, r2) := by rw [if_neg (show ¬ (false = true) by decide)] at H; exact H
  clear H; have H := H1; clear H1; obtain ⟨y141, hy141⟩ : ∃ y_ : List (S40), y_ = (([] : List (S40))) := ⟨_, rfl⟩
  replace H : (some (y141, (([] : List (S42))))) = some (r1, r2) := by first | (rw [hy141]; with_reducible exact H) | (replace H := (Option.bind_some _ _).symm.trans H; first | (rw [hy141]; with_reducible exact H) | with_reducible exact H) | with_reducible exact H | (rw [hy141]; exact H) | exact H
  have Ny141 := Zz.mk hy141; clear hy141; obtain ⟨y144, hy144⟩ : ∃ y_ : List (S42), y_ = (([] : List (S42))) := ⟨_, rfl⟩
  replace H : (some (y141, y144)) = some (r1, r2) := by first | (rw [hy144]; with_reducible exact H) | (replace H := (Option.bind_some _ _).symm.trans H; first | (rw [hy144]; with_reducible exact H) | with_reducible exact H) | with_reducible exact H | (rw [hy144]; exact H) | exact H
  have Ny144 := Zz.mk hy144; clear hy144; simp only [Option.some.injEq, Prod.mk.injEq] at H; obtain ⟨rfl, rfl⟩ := H; go_enter Try.func7, Try.ntmps7; go_wp2_with (first | ((with_reducible refine gate_callee (f := 20) rfl ?_); refine goesL_ (some 7) rfl rfl Try.func20 (by kernel_rfl) rfl #[.slice A0 l0.length c0] rfl (by (try simp only [List.map_toArray, List.map_cons, List.map_nil]); first | done | rfl | (simp only [List.length_drop, List.length_take]; rfl)) ?_; (with_reducible refine (spec_CastOk.calls k _ _ l0 false _ ?side1 ?side2 A3.out).mono ?_); (case side1 => repeat (first | exact HR0.out | (with_reducible refine Kd.CA ?_ _) | (with_reducible refine Kd.CN ?_ _) | (with_reducible refine Kd.CD ?_))); (case side2 => exact HC0.out); rintro e w8 ⟨rfl, hb⟩; refine ⟨_, rfl, ?_⟩; have n0_ := Zz.mk (bwP (by repeat (first | (with_reducible first | exact HB.out | apply bwA | apply pwN | apply bw1) | exact HB.out)) hb); clear HB; have HB := n0_; clear n0_; (try clear hb); (try clear A3)) | ((with_reducible refine gate_dst (N := 9) rfl ?_); refine Kd.R_lit k40 _ 40 ?hg (N := 9) ?hd (xs := ([] : List (S40))) (inner := []) (ok := fun _ => True) (okp := fun _ => True) ?hr ?hp (fun _ hk => hk) trivial (Below.refl _ _) (Nat.le_refl _) (by simp) ?_; (case hd => rfl); (case hg => rfl); (case hr => first | (go_simp; done) | (go_simp; rfl)); (case hp => exact (Reps.none _ _)); intro v142 w9 ho10 hb hg_ hnew_; clear hg_ hnew_; (first | rw [← Ny141.out] at ho10 | (simp only [Int.reduceToNat] at ho10; rw [← Ny141.out] at ho10)); have n0_ := Zz.mk (Kd.R_lower ho10 (bwZ (by repeat (first | (with_reducible first | exact HB.out | apply bwA | apply pwN | apply bw1) | exact HB.out)))); have n1_ := Zz.mk (bwP (by repeat (first | (with_reducible first | exact HB.out | apply bwA | apply pwN | apply bw1) | exact HB.out)) hb); clear HB; have HO143 := n0_; have HB := n1_; clear n0_ n1_; clear hb ho10) | ((with_reducible refine gate_dst (N := 10) rfl ?_); refine Kd.R_lit k42 _ 42 ?hg (N := 10) ?hd (xs := ([] : List (S42))) (inner := []) (ok := fun _ => True) (okp := fun _ => True) ?hr ?hp (fun _ hk => hk) trivial (Below.refl _ _) (Nat.le_refl _) (by simp) ?_; (case hd => rfl); (case hg => rfl); (case hr => first | (go_simp; done) | (go_simp; rfl)); (case hp => exact (Reps.none _ _)); intro v145 w11 ho12 hb hg_ hnew_; clear hg_ hnew_; (first | rw [← Ny144.out] at ho12 | (simp only [Int.reduceToNat] at ho12; rw [← Ny144.out] at ho12)); have n0_ := Zz.mk (Kd.R_below (by (with_reducible repeat (first | apply Kd.RA | apply Kd.RN | apply Kd.RD)); exact HO143.out) hb); have n1_ := Zz.mk (Kd.R_lower ho12 (bwZ (by repeat (first | (with_reducible first | exact HB.out | apply bwA | apply pwN | apply bw1) | exact HB.out)))); have n2_ := Zz.mk (bwP (by repeat (first | (with_reducible first | exact HB.out | apply bwA | apply pwN | apply bw1) | exact HB.out)) hb); clear HO143; clear HB; have HO143 := n0_; have HO146 := n1_; have HB := n2_; clear n0_ n1_ n2_; clear hb ho12))
  go_ret2
  exact ⟨_, _, by first | rfl | (simp [eN, eS] <;> rfl) | (simp [*, eN, eS] <;> rfl), by (with_reducible repeat (first | apply Kd.RA | apply Kd.RN | apply Kd.RD)); exact HO143.out, by (with_reducible repeat (first | apply Kd.RA | apply Kd.RN | apply Kd.RD)); exact HO146.out, by repeat (first | (with_reducible first | exact HB.out | apply bwA | apply pwN | apply bw1) | exact HB.out)⟩

/-! ### impl_in: function 36 -/
def impl_in.f (a0 : Int) (a1 : Int) (a2 : Int) : Option (Bool) := if a0 ≥ a1 then (some (decide (a0 ≤ a2))) else (some false)
set_option maxHeartbeats 8000000 in
set_option maxRecDepth 100000 in
theorem impl_in.calls (a0 : Int) (a1 : Int) (a2 : Int) (r : Bool) (w : World) (h : impl_in.f a0 a1 a2 = some r) :
  Calls Try.prog 36 #[.int .i64 a0, .int .i64 a1, .int .i64 a2] w fun e w' => e = .returned (.bool r) ∧ Drawn0 w w' := by
 have H : (if a0 ≥ a1 then (some (decide (a0 ≤ a2))) else (some false)) = some r := h; clear h; by_cases c4 : a0 ≥ a1
 ·rw [if_pos c4] at H
  have c4b0 : decide (a1 ≤ a0) = true := decide_eq_true c4; clear c4; obtain rfl := Option.some.inj H; go_enter Try.func36, Try.ntmps36; go_wp2
  go_ret
  exact ⟨by first | rfl | (simp; done) | (simp [*]; done), by repeat (first | exact Drawn0.refl _ | apply Drawn0.step)⟩
 ·rw [if_neg c4] at H
  have c4b0 : decide (a1 ≤ a0) = false := decide_eq_false c4; clear c4; obtain rfl := Option.some.inj H; go_enter Try.func36, Try.ntmps36; go_wp2
  go_ret
  exact ⟨by first | rfl | (simp; done) | (simp [*]; done), by repeat (first | exact Drawn0.refl _ | apply Drawn0.step)⟩

/-! ### impl_CastOk_1: function 35 -/
def impl_CastOk_1.f (a0_0 : Int) (a0_1 : Int) (a0_2 : Int) (a0_3 : Bool) (a0_4 : Int) : Option (Bool) := (impl_in.f a0_4 1 4).bind fun t148 => (some (!t148))
set_option maxHeartbeats 8000000 in
set_option maxRecDepth 100000 in
theorem impl_CastOk_1.calls (a0_0 : Int) (a0_1 : Int) (a0_2 : Int) (a0_3 : Bool) (a0_4 : Int) (r : Bool) (w : World) (h : impl_CastOk_1.f a0_0 a0_1 a0_2 a0_3 a0_4 = some r) :
  Calls Try.prog 35 #[.agg #[.int .i64 a0_0, .int .i64 a0_1, .int .i64 a0_2, .bool a0_3, .int .i64 a0_4]] w fun e w' => e = .returned (.bool r) ∧ Below w.heap.size w w' := by
 have hu42 := Try.underlying42; have HB := Zz.mk (Below.refl w.heap.size w); have H : ((impl_in.f a0_4 1 4).bind fun t148 => (some (!t148))) = some r := h; clear h; replace H := Option.bind_eq_some_iff.mp H; obtain ⟨t148, A20, H⟩ := H; replace H : (some (!t148)) = some r := H; have A2 := Zz.mk A20; clear A20; obtain rfl := Option.some.inj H; go_enter Try.func35, Try.ntmps35; go_wp2_with (first | ((with_reducible refine gate_dst (N := 1) rfl ?_); refine box_event ?hg (N := 1) ?hd (cs := #[.int .i64 a0_0, .int .i64 a0_1, .int .i64 a0_2, .bool a0_3, .int .i64 a0_4]) (t := 42) ?hr ?_; (case hd => rfl); (case hg => rfl); (case hr => first | (go_simp; done) | (go_simp; rfl)); intro gb147 hg w3 hbox hb; have n0_ := Zz.mk (bwP (by repeat (first | (with_reducible first | exact HB.out | apply bwA | apply pwN | apply bw1) | exact HB.out)) hb); have n1_ := Zz.mk (hbox); have n2_ := Zz.mk ((by rw [hg]; exact (bwZ (by repeat (first | (with_reducible first | exact HB.out | apply bwA | apply pwN | apply bw1) | exact HB.out))) : w.heap.size ≤ gb147)); have n3_ := Zz.mk ((by rw [hg]; exact (bwZ (by repeat (first | (with_reducible first | exact HB.out | apply bwA | apply pwN | apply bw1) | exact HB.out))) : w.heap.size ≤ gb147)); clear HB; have HB := n0_; have BK147 := n1_; have GW147 := n2_; have GE147 := n3_; clear n0_ n1_ n2_ n3_; clear hb hbox hg; have hcz4_0 : w3.cell? ⟨gb147, 0, none⟩ = some (.int .i64 a0_0) := (bkC BK147.out 0).trans rfl; have hcz4_1 : w3.cell? ⟨gb147, 1, none⟩ = some (.int .i64 a0_1) := (bkC BK147.out 1).trans rfl; have hcz4_2 : w3.cell? ⟨gb147, 2, none⟩ = some (.int .i64 a0_2) := (bkC BK147.out 2).trans rfl; have hcz4_3 : w3.cell? ⟨gb147, 3, none⟩ = some (.bool a0_3) := (bkC BK147.out 3).trans rfl; have hcz4_4 : w3.cell? ⟨gb147, 4, none⟩ = some (.int .i64 a0_4) := (bkC BK147.out 4).trans rfl; have hfz4_0 := bkF BK147.out 0; have hfz4_1 := bkF BK147.out 1; have hfz4_2 := bkF BK147.out 2; have hfz4_3 := bkF BK147.out 3; have hfz4_4 := bkF BK147.out 4) | ((with_reducible refine gate_callee (f := 36) rfl ?_); refine goesL_ (some 5) rfl rfl Try.func36 (by kernel_rfl) rfl #[.int .i64 a0_4, .int .i64 1, .int .i64 4] rfl (by (try simp only [List.map_toArray, List.map_cons, List.map_nil]); first | done | rfl | (simp only [List.length_drop, List.length_take]; rfl)) ?_; (with_reducible refine (impl_in.calls a0_4 1 4 t148 _ A2.out).mono ?_); rintro e w' ⟨rfl, ⟨nd, rfl⟩⟩; refine ⟨_, rfl, ?_⟩; (try clear A2)))
 go_ret
 exact ⟨by first | rfl | (simp [eN, eS] <;> rfl) | (simp [*, eN, eS] <;> rfl), by repeat (first | (with_reducible first | exact HB.out | apply bwA | apply pwN | apply bw1 | refine bwS ?_ GE147.out) | exact HB.out)⟩

end Go.Proofs.Ytbibieonaceolaa.PFnCastAll
