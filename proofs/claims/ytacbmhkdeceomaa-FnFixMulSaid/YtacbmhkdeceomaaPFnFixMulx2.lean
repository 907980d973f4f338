/- Written by a program of this session (a turned copy of a tool of the kit): functions of the program as plain functions, and that each call does what they tell. Conditions: none. -/
import Derived.Test.YtacbmhkdeceomaaPFnFixMulx0
import Derived.Test.YtacbmhkdeceomaaPFnFixMulx1
namespace Go.Proofs.Ytacbmhkdeceomaa.PFnFixMul
open Go.RowKit Go.Proofs.YtacbmhkdeceomaaW.PrintWords Go.Proofs.YtacbmhkdeceomaaW.PrintLast Go.Proofs.YtacbmhkdeceomaaW.PrintMore
attribute [local go_sem] max2_int min2_int max_two min_two max_three min_three max_four min_four   -- for this text's walks alone
set_option linter.unusedVariables false
set_option linter.unusedSimpArgs false

/-! ### laws_FnFixMul: function 4 -/
def laws_FnFixMul.j0 : Nat → Int → Int → Int → Bool → Option (Bool)
  | 0, _, _, _, _ => none
  | k + 1, x3, x4, x5, x40 => if x40 = true then (some false) else ((impl_FixClamp.f x4).bind fun t144 => ((impl_FixMul.f x3 (wrap64 (-t144))).bind fun t145 => (if t145 = (wrap64 (-x5)) then (if x5 = 0 then ((impl_FixMul.f 2000 3000).bind fun t146 => (some (t146 == 6000))) else (if ((decide (x5 > 0)) == ((decide (x3 > 0)) == (decide (x4 > 0)))) = true then ((impl_FixMul.f 2000 3000).bind fun t147 => (some (t147 == 6000))) else (some false))) else (some false))))
def laws_FnFixMul.f (k : Nat) (l0 : List Int) : Option (Bool) := if (l0.length : Int) > 1048576 then (some true) else ((spec_DrawFixMul.f k l0).bind fun bt136 => ((impl_FixMul.f bt136.1 bt136.2).bind fun t138 => ((spec_FixMul.f bt136.1 bt136.2).bind fun t139 => (if t138 = t139 then ((impl_FixMul.f bt136.2 bt136.1).bind fun t140 => (if t138 = t140 then ((impl_FixMul.f bt136.1 1000).bind fun t141 => ((impl_FixClamp.f bt136.1).bind fun t142 => (if t141 = t142 then ((impl_FixMul.f bt136.1 0).bind fun t143 => (laws_FnFixMul.j0 k bt136.1 bt136.2 t138 (t143 != 0))) else (laws_FnFixMul.j0 k bt136.1 bt136.2 t138 true)))) else (laws_FnFixMul.j0 k bt136.1 bt136.2 t138 true))) else (laws_FnFixMul.j0 k bt136.1 bt136.2 t138 true)))))
theorem laws_FnFixMul.mono_l : ∀ k, (∀ y0 y1 y2 y3, LeO (laws_FnFixMul.j0 k y0 y1 y2 y3) (laws_FnFixMul.j0 (k + 1) y0 y1 y2 y3))
  | 0 => fun _ _ _ _ r h => by simp [laws_FnFixMul.j0] at h
  | k + 1 => by
    have ih0 := laws_FnFixMul.mono_l k
    · intro y0 y1 y2 y3
      unfold laws_FnFixMul.j0
      repeat' first
      | (with_reducible exact ih0 _ _ _ _)
      | (with_reducible exact spec_DrawFixMul.mono _ _)
      | (with_reducible exact LeO.refl _)
      | (with_reducible exact LeO.none _)
      | (with_reducible refine LeO.ite ?_ ?_)
      | (with_reducible refine LeO.bind ?_ (fun _ => ?_))
      | exact ih0 _ _ _ _
      | exact spec_DrawFixMul.mono _ _
      | exact LeO.none _
      | refine LeO.ite ?_ ?_
      | refine LeO.bind ?_ (fun _ => ?_)
theorem laws_FnFixMul.mono : ∀ a0 k, LeO (laws_FnFixMul.f k a0) (laws_FnFixMul.f (k + 1) a0) := by
  intro a0 k
  have ih0 := laws_FnFixMul.mono_l k
  unfold laws_FnFixMul.f
  repeat' first
      | (with_reducible exact ih0 _ _ _ _)
      | (with_reducible exact spec_DrawFixMul.mono _ _)
      | (with_reducible exact LeO.refl _)
      | (with_reducible exact LeO.none _)
      | (with_reducible refine LeO.ite ?_ ?_)
      | (with_reducible refine LeO.bind ?_ (fun _ => ?_))
      | exact ih0 _ _ _ _
      | exact spec_DrawFixMul.mono _ _
      | exact LeO.none _
      | refine LeO.ite ?_ ?_
      | refine LeO.bind ?_ (fun _ => ?_)
set_option maxHeartbeats 8000000 in
set_option maxRecDepth 100000 in
theorem laws_FnFixMul.calls (k : Nat) (A0 : Option Addr) (c0 : Nat) (l0 : List Int) (r : Bool) (w : World) (hr0 : Kd.C (Kd.int .u8) w A0 l0.length l0) (hc0 : l0.length ≤ c0) (h : laws_FnFixMul.f k l0 = some r) :
    Calls Try.prog 4 #[.slice A0 l0.length c0] w fun e w' => e = .returned (.bool r) ∧ Below w.heap.size w w' := by
  have HR0 := Aside0.mk hr0
  have HC0 := Aside0.mk hc0
  clear hr0 hc0
  have HB := Aside0.mk (Below.refl w.heap.size w)
  have H : (if (l0.length : Int) > 1048576 then (some true) else ((spec_DrawFixMul.f k l0).bind fun bt136 => ((impl_FixMul.f bt136.1 bt136.2).bind fun t138 => ((spec_FixMul.f bt136.1 bt136.2).bind fun t139 => (if t138 = t139 then ((impl_FixMul.f bt136.2 bt136.1).bind fun t140 => (if t138 = t140 then ((impl_FixMul.f bt136.1 1000).bind fun t141 => ((impl_FixClamp.f bt136.1).bind fun t142 => (if t141 = t142 then ((impl_FixMul.f bt136.1 0).bind fun t143 => (laws_FnFixMul.j0 k bt136.1 bt136.2 t138 (t143 != 0))) else (laws_FnFixMul.j0 k bt136.1 bt136.2 t138 true)))) else (laws_FnFixMul.j0 k bt136.1 bt136.2 t138 true))) else (laws_FnFixMul.j0 k bt136.1 bt136.2 t138 true)))))) = some r := h
  clear h
  by_cases c2 : (l0.length : Int) > 1048576
  · rw [if_pos c2] at H
    have c2b0 : decide (1048576 < (l0.length : Int)) = true := decide_eq_true c2
    have c2b1 : decide (1048576 < l0.length) = true := decide_eq_true (by omega)
    clear c2
    obtain rfl := Option.some.inj H
    go_enter Try.func4, Try.ntmps4
    go_wp2
    go_ret
    exact ⟨by first | rfl | (simp [errW_none, errW_some] <;> rfl) | (simp [*, errW_none, errW_some] <;> rfl), by repeat (first | (with_reducible first | exact HB.out | apply below_alloc | apply pw_below_drewN | apply below_drew1) | exact HB.out)⟩
  · rw [if_neg c2] at H
    have c2b0 : decide (1048576 < (l0.length : Int)) = false := decide_eq_false c2
    have c2b1 : decide (1048576 < l0.length) = false := decide_eq_false (by omega)
    clear c2
    replace H := Option.bind_eq_some_iff.mp H
    obtain ⟨⟨t136, t137⟩, A30, H⟩ := H
    replace H : ((impl_FixMul.f t136 t137).bind fun t138 => ((spec_FixMul.f t136 t137).bind fun t139 => (if t138 = t139 then ((impl_FixMul.f t137 t136).bind fun t140 => (if t138 = t140 then ((impl_FixMul.f t136 1000).bind fun t141 => ((impl_FixClamp.f t136).bind fun t142 => (if t141 = t142 then ((impl_FixMul.f t136 0).bind fun t143 => (laws_FnFixMul.j0 k t136 t137 t138 (t143 != 0))) else (laws_FnFixMul.j0 k t136 t137 t138 true)))) else (laws_FnFixMul.j0 k t136 t137 t138 true))) else (laws_FnFixMul.j0 k t136 t137 t138 true)))) = some r := H
    have A3 := Aside0.mk A30
    clear A30
    replace H := Option.bind_eq_some_iff.mp H
    obtain ⟨t138, A40, H⟩ := H
    replace H : ((spec_FixMul.f t136 t137).bind fun t139 => (if t138 = t139 then ((impl_FixMul.f t137 t136).bind fun t140 => (if t138 = t140 then ((impl_FixMul.f t136 1000).bind fun t141 => ((impl_FixClamp.f t136).bind fun t142 => (if t141 = t142 then ((impl_FixMul.f t136 0).bind fun t143 => (laws_FnFixMul.j0 k t136 t137 t138 (t143 != 0))) else (laws_FnFixMul.j0 k t136 t137 t138 true)))) else (laws_FnFixMul.j0 k t136 t137 t138 true))) else (laws_FnFixMul.j0 k t136 t137 t138 true))) = some r := H
    have A4 := Aside0.mk A40
    clear A40
    have HC5 := Aside0.mk H
    clear H
    go_enter Try.func4, Try.ntmps4
    go_upto_region 5 with (first | ((with_reducible refine gate_callee (f := 16) rfl ?_); refine goesL_ (some 11) rfl rfl Try.func16 (by kernel_rfl) rfl #[.slice A0 l0.length c0] rfl (by (try simp only [List.map_toArray, List.map_cons, List.map_nil]); first | done | rfl | (simp only [List.length_drop, List.length_take]; rfl)) ?_; (with_reducible refine (spec_DrawFixMul.calls k _ _ l0 t136 t137 _ ?side1 ?side2 A3.out).mono ?_); (case side1 => repeat (first | exact HR0.out | (with_reducible refine Kd.C_alloc ?_ _) | (with_reducible refine Kd.C_drewN ?_ _) | (with_reducible refine Kd.C_drew ?_))); (case side2 => exact HC0.out); rintro e w6 ⟨rfl, hb⟩; refine ⟨_, rfl, ?_⟩; have n0_ := Aside0.mk (below_step (by repeat (first | (with_reducible first | exact HB.out | apply below_alloc | apply pw_below_drewN | apply below_drew1) | exact HB.out)) hb); clear HB; have HB := n0_; clear n0_; (try clear hb); (try clear hb2); (try clear hk); (try clear hi); (try clear A3)) | ((with_reducible refine gate_callee (f := 17) rfl ?_); refine goesL_ (some 16) rfl rfl Try.func17 (by kernel_rfl) rfl #[.int .i64 t136, .int .i64 t137] rfl (by (try simp only [List.map_toArray, List.map_cons, List.map_nil]); first | done | rfl | (simp only [List.length_drop, List.length_take]; rfl)) ?_; (with_reducible refine (impl_FixMul.calls t136 t137 t138 _ A4.out).mono ?_); rintro e w7 ⟨rfl, hb⟩; refine ⟨_, rfl, ?_⟩; have n0_ := Aside0.mk (below_step (by repeat (first | (with_reducible first | exact HB.out | apply below_alloc | apply pw_below_drewN | apply below_drew1) | exact HB.out)) hb); clear HB; have HB := n0_; clear n0_; (try clear hb); (try clear hb2); (try clear hk); (try clear hi); (try clear A4)))
    (try simp only [Act.put, List.setIfInBounds_toArray, List.set_cons_zero, List.set_cons_succ])
    go_cut [40] (fun v40 wc => ∃ (kq : Nat) (x40_4 : Bool), v40 = .bool x40_4 ∧ Aside0 (laws_FnFixMul.j0 kq t136 t137 t138 x40_4 = some r) ∧ Aside0 (kq ≤ k) ∧ Aside0 (Below w.heap.size w wc))
    case first =>
      have H := HC5.out
      clear HC5
      replace H := Option.bind_eq_some_iff.mp H
      obtain ⟨t139, A80, H⟩ := H
      replace H : (if t138 = t139 then ((impl_FixMul.f t137 t136).bind fun t140 => (if t138 = t140 then ((impl_FixMul.f t136 1000).bind fun t141 => ((impl_FixClamp.f t136).bind fun t142 => (if t141 = t142 then ((impl_FixMul.f t136 0).bind fun t143 => (laws_FnFixMul.j0 k t136 t137 t138 (t143 != 0))) else (laws_FnFixMul.j0 k t136 t137 t138 true)))) else (laws_FnFixMul.j0 k t136 t137 t138 true))) else (laws_FnFixMul.j0 k t136 t137 t138 true)) = some r := H
      have A8 := Aside0.mk A80
      clear A80
      by_cases c9 : t138 = t139
      · rw [if_pos c9] at H
        have c9b0 : (t138 == t139) = true := beq_iff_eq.mpr c9
        have c9b1 : (t138 != t139) = false := bne_eq_false_iff_eq.mpr c9
        clear c9
        (first | rw [c9b0] | (simp only [i64_w, i32_w]; rw [c9b0]) | skip)
        replace H := Option.bind_eq_some_iff.mp H
        obtain ⟨t140, A100, H⟩ := H
        replace H : (if t138 = t140 then ((impl_FixMul.f t136 1000).bind fun t141 => ((impl_FixClamp.f t136).bind fun t142 => (if t141 = t142 then ((impl_FixMul.f t136 0).bind fun t143 => (laws_FnFixMul.j0 k t136 t137 t138 (t143 != 0))) else (laws_FnFixMul.j0 k t136 t137 t138 true)))) else (laws_FnFixMul.j0 k t136 t137 t138 true)) = some r := H
        have A10 := Aside0.mk A100
        clear A100
        by_cases c11 : t138 = t140
        · rw [if_pos c11] at H
          have c11b0 : (t138 == t140) = true := beq_iff_eq.mpr c11
          have c11b1 : (t138 != t140) = false := bne_eq_false_iff_eq.mpr c11
          clear c11
          replace H := Option.bind_eq_some_iff.mp H
          obtain ⟨t141, A120, H⟩ := H
          replace H : ((impl_FixClamp.f t136).bind fun t142 => (if t141 = t142 then ((impl_FixMul.f t136 0).bind fun t143 => (laws_FnFixMul.j0 k t136 t137 t138 (t143 != 0))) else (laws_FnFixMul.j0 k t136 t137 t138 true))) = some r := H
          have A12 := Aside0.mk A120
          clear A120
          replace H := Option.bind_eq_some_iff.mp H
          obtain ⟨t142, A130, H⟩ := H
          replace H : (if t141 = t142 then ((impl_FixMul.f t136 0).bind fun t143 => (laws_FnFixMul.j0 k t136 t137 t138 (t143 != 0))) else (laws_FnFixMul.j0 k t136 t137 t138 true)) = some r := H
          have A13 := Aside0.mk A130
          clear A130
          by_cases c14 : t141 = t142
          · rw [if_pos c14] at H
            have c14b0 : (t141 == t142) = true := beq_iff_eq.mpr c14
            have c14b1 : (t141 != t142) = false := bne_eq_false_iff_eq.mpr c14
            clear c14
            replace H := Option.bind_eq_some_iff.mp H
            obtain ⟨t143, A150, H⟩ := H
            replace H : (laws_FnFixMul.j0 k t136 t137 t138 (t143 != 0)) = some r := H
            have A15 := Aside0.mk A150
            clear A150
            have H' := Aside0.mk H
            clear H
            go_wp2_with (first | ((with_reducible refine gate_callee (f := 18) rfl ?_); refine goesL_ (some 20) rfl rfl Try.func18 (by kernel_rfl) rfl #[.int .i64 t136, .int .i64 t137] rfl (by (try simp only [List.map_toArray, List.map_cons, List.map_nil]); first | done | rfl | (simp only [List.length_drop, List.length_take]; rfl)) ?_; (with_reducible refine (spec_FixMul.calls t136 t137 t139 _ A8.out).mono ?_); rintro e w' ⟨rfl, ⟨nd, rfl⟩⟩; refine ⟨_, rfl, ?_⟩; (try clear A8)) | (go_at_call 17; (with_reducible refine (impl_FixMul.calls t137 t136 t140 _ A10.out).mono ?_); rintro e w16 ⟨rfl, hb⟩; have n0_ := Aside0.mk (below_step (by repeat (first | (with_reducible first | exact HB.out | apply below_alloc | apply pw_below_drewN | apply below_drew1) | exact HB.out)) hb); clear HB; have HB := n0_; clear n0_; (try clear hb); (try clear hb2); (try clear hk); (try clear hi); (try clear A10)) | (go_at_call 17; (with_reducible refine (impl_FixMul.calls t136 1000 t141 _ A12.out).mono ?_); rintro e w17 ⟨rfl, hb⟩; have n0_ := Aside0.mk (below_step (by repeat (first | (with_reducible first | exact HB.out | apply below_alloc | apply pw_below_drewN | apply below_drew1) | exact HB.out)) hb); clear HB; have HB := n0_; clear n0_; (try clear hb); (try clear hb2); (try clear hk); (try clear hi); (try clear A12)) | (go_at_call 14; (with_reducible refine (impl_FixClamp.calls t136 t142 _ A13.out).mono ?_); rintro e w18 ⟨rfl, hb⟩; have n0_ := Aside0.mk (below_step (by repeat (first | (with_reducible first | exact HB.out | apply below_alloc | apply pw_below_drewN | apply below_drew1) | exact HB.out)) hb); clear HB; have HB := n0_; clear n0_; (try clear hb); (try clear hb2); (try clear hk); (try clear hi); (try clear A13)) | (go_at_call 17; (with_reducible refine (impl_FixMul.calls t136 0 t143 _ A15.out).mono ?_); rintro e w19 ⟨rfl, hb⟩; have n0_ := Aside0.mk (below_step (by repeat (first | (with_reducible first | exact HB.out | apply below_alloc | apply pw_below_drewN | apply below_drew1) | exact HB.out)) hb); clear HB; have HB := n0_; clear n0_; (try clear hb); (try clear hb2); (try clear hk); (try clear hi); (try clear A15)))
            go_meet
            case rel => exact ⟨_, ((t143 != 0)), (by first | rfl | (simp; done) | (simp [*]; done)), H', ⟨by first | omega | exact Nat.le_refl _⟩, ⟨by repeat (first | (with_reducible first | exact HB.out | apply below_alloc | apply pw_below_drewN | apply below_drew1) | exact HB.out)⟩⟩
          · rw [if_neg c14] at H
            have c14b0 : (t141 == t142) = false := beq_eq_false_iff_ne.mpr c14
            have c14b1 : (t141 != t142) = true := bne_iff_ne.mpr c14
            have H' := Aside0.mk H
            clear H
            go_wp2_with (first | ((with_reducible refine gate_callee (f := 18) rfl ?_); refine goesL_ (some 20) rfl rfl Try.func18 (by kernel_rfl) rfl #[.int .i64 t136, .int .i64 t137] rfl (by (try simp only [List.map_toArray, List.map_cons, List.map_nil]); first | done | rfl | (simp only [List.length_drop, List.length_take]; rfl)) ?_; (with_reducible refine (spec_FixMul.calls t136 t137 t139 _ A8.out).mono ?_); rintro e w' ⟨rfl, ⟨nd, rfl⟩⟩; refine ⟨_, rfl, ?_⟩; (try clear A8)) | (go_at_call 17; (with_reducible refine (impl_FixMul.calls t137 t136 t140 _ A10.out).mono ?_); rintro e w20 ⟨rfl, hb⟩; have n0_ := Aside0.mk (below_step (by repeat (first | (with_reducible first | exact HB.out | apply below_alloc | apply pw_below_drewN | apply below_drew1) | exact HB.out)) hb); clear HB; have HB := n0_; clear n0_; (try clear hb); (try clear hb2); (try clear hk); (try clear hi); (try clear A10)) | (go_at_call 17; (with_reducible refine (impl_FixMul.calls t136 1000 t141 _ A12.out).mono ?_); rintro e w21 ⟨rfl, hb⟩; have n0_ := Aside0.mk (below_step (by repeat (first | (with_reducible first | exact HB.out | apply below_alloc | apply pw_below_drewN | apply below_drew1) | exact HB.out)) hb); clear HB; have HB := n0_; clear n0_; (try clear hb); (try clear hb2); (try clear hk); (try clear hi); (try clear A12)) | (go_at_call 14; (with_reducible refine (impl_FixClamp.calls t136 t142 _ A13.out).mono ?_); rintro e w22 ⟨rfl, hb⟩; have n0_ := Aside0.mk (below_step (by repeat (first | (with_reducible first | exact HB.out | apply below_alloc | apply pw_below_drewN | apply below_drew1) | exact HB.out)) hb); clear HB; have HB := n0_; clear n0_; (try clear hb); (try clear hb2); (try clear hk); (try clear hi); (try clear A13)))
            go_meet
            case rel => exact ⟨_, (true), (by first | rfl | (simp; done) | (simp [*]; done)), H', ⟨by first | omega | exact Nat.le_refl _⟩, ⟨by repeat (first | (with_reducible first | exact HB.out | apply below_alloc | apply pw_below_drewN | apply below_drew1) | exact HB.out)⟩⟩
        · rw [if_neg c11] at H
          have c11b0 : (t138 == t140) = false := beq_eq_false_iff_ne.mpr c11
          have c11b1 : (t138 != t140) = true := bne_iff_ne.mpr c11
          have H' := Aside0.mk H
          clear H
          go_wp2_with (first | ((with_reducible refine gate_callee (f := 18) rfl ?_); refine goesL_ (some 20) rfl rfl Try.func18 (by kernel_rfl) rfl #[.int .i64 t136, .int .i64 t137] rfl (by (try simp only [List.map_toArray, List.map_cons, List.map_nil]); first | done | rfl | (simp only [List.length_drop, List.length_take]; rfl)) ?_; (with_reducible refine (spec_FixMul.calls t136 t137 t139 _ A8.out).mono ?_); rintro e w' ⟨rfl, ⟨nd, rfl⟩⟩; refine ⟨_, rfl, ?_⟩; (try clear A8)) | (go_at_call 17; (with_reducible refine (impl_FixMul.calls t137 t136 t140 _ A10.out).mono ?_); rintro e w23 ⟨rfl, hb⟩; have n0_ := Aside0.mk (below_step (by repeat (first | (with_reducible first | exact HB.out | apply below_alloc | apply pw_below_drewN | apply below_drew1) | exact HB.out)) hb); clear HB; have HB := n0_; clear n0_; (try clear hb); (try clear hb2); (try clear hk); (try clear hi); (try clear A10)))
          go_meet
          case rel => exact ⟨_, (true), (by first | rfl | (simp; done) | (simp [*]; done)), H', ⟨by first | omega | exact Nat.le_refl _⟩, ⟨by repeat (first | (with_reducible first | exact HB.out | apply below_alloc | apply pw_below_drewN | apply below_drew1) | exact HB.out)⟩⟩
      · rw [if_neg c9] at H
        have c9b0 : (t138 == t139) = false := beq_eq_false_iff_ne.mpr c9
        have c9b1 : (t138 != t139) = true := bne_iff_ne.mpr c9
        (first | rw [c9b0] | (simp only [i64_w, i32_w]; rw [c9b0]) | skip)
        have H' := Aside0.mk H
        clear H
        go_wp2_with (first | ((with_reducible refine gate_callee (f := 18) rfl ?_); refine goesL_ (some 20) rfl rfl Try.func18 (by kernel_rfl) rfl #[.int .i64 t136, .int .i64 t137] rfl (by (try simp only [List.map_toArray, List.map_cons, List.map_nil]); first | done | rfl | (simp only [List.length_drop, List.length_take]; rfl)) ?_; (with_reducible refine (spec_FixMul.calls t136 t137 t139 _ A8.out).mono ?_); rintro e w' ⟨rfl, ⟨nd, rfl⟩⟩; refine ⟨_, rfl, ?_⟩; (try clear A8)))
        go_meet
        case rel => exact ⟨_, (true), (by first | rfl | (simp; done) | (simp [*]; done)), H', ⟨by first | omega | exact Nat.le_refl _⟩, ⟨by repeat (first | (with_reducible first | exact HB.out | apply below_alloc | apply pw_below_drewN | apply below_drew1) | exact HB.out)⟩⟩
    case rest =>
      clear HC5
      try clear c1
      try clear c2
      try clear c2b0
      try clear c2b1
      try clear p2
      try clear c4
      try clear c9
      try clear c9b0
      try clear c9b1
      try clear c11
      try clear c11b0
      try clear c11b1
      try clear c14
      try clear c14b0
      try clear c14b1
      try clear c16
      try clear c17
      try clear c18
      obtain ⟨kq, x40_4, rfl, HA, HJ4, HB⟩ := hcut
      cases kq with
      | zero => exact absurd HA.out (by simp [laws_FnFixMul.j0])
      | succ kj4 =>
        have H := HA.out
        clear HA
        simp only [laws_FnFixMul.j0] at H
        by_cases c24 : x40_4 = true
        · subst c24
          have H1 : (some false) = some r := by rw [if_pos rfl] at H; exact H
          clear H
          have H := H1
          clear H1
          obtain rfl := Option.some.inj H
          go_wp2
          go_ret
          exact ⟨by first | rfl | (simp [errW_none, errW_some] <;> rfl) | (simp [*, errW_none, errW_some] <;> rfl), by repeat (first | (with_reducible first | exact HB.out | apply below_alloc | apply pw_below_drewN | apply below_drew1) | exact HB.out)⟩
        · replace c24 := Bool.eq_false_iff.mpr c24
          subst c24
          have H1 : ((impl_FixClamp.f t137).bind fun t144 => ((impl_FixMul.f t136 (wrap64 (-t144))).bind fun t145 => (if t145 = (wrap64 (-t138)) then (if t138 = 0 then ((impl_FixMul.f 2000 3000).bind fun t146 => (some (t146 == 6000))) else (if ((decide (t138 > 0)) == ((decide (t136 > 0)) == (decide (t137 > 0)))) = true then ((impl_FixMul.f 2000 3000).bind fun t147 => (some (t147 == 6000))) else (some false))) else (some false)))) = some r := by rw [if_neg (show ¬ (false = true) by decide)] at H; exact H
          clear H
          have H := H1
          clear H1
          replace H := Option.bind_eq_some_iff.mp H
          obtain ⟨t144, A250, H⟩ := H
          replace H : ((impl_FixMul.f t136 (wrap64 (-t144))).bind fun t145 => (if t145 = (wrap64 (-t138)) then (if t138 = 0 then ((impl_FixMul.f 2000 3000).bind fun t146 => (some (t146 == 6000))) else (if ((decide (t138 > 0)) == ((decide (t136 > 0)) == (decide (t137 > 0)))) = true then ((impl_FixMul.f 2000 3000).bind fun t147 => (some (t147 == 6000))) else (some false))) else (some false))) = some r := H
          have A25 := Aside0.mk A250
          clear A250
          replace H := Option.bind_eq_some_iff.mp H
          obtain ⟨t145, A260, H⟩ := H
          replace H : (if t145 = (wrap64 (-t138)) then (if t138 = 0 then ((impl_FixMul.f 2000 3000).bind fun t146 => (some (t146 == 6000))) else (if ((decide (t138 > 0)) == ((decide (t136 > 0)) == (decide (t137 > 0)))) = true then ((impl_FixMul.f 2000 3000).bind fun t147 => (some (t147 == 6000))) else (some false))) else (some false)) = some r := H
          have A26 := Aside0.mk A260
          clear A260
          by_cases c27 : t145 = (wrap64 (-t138))
          · rw [if_pos c27] at H
            have c27b0 : (t145 == (wrap64 (-t138))) = true := beq_iff_eq.mpr c27
            have c27b1 : (t145 != (wrap64 (-t138))) = false := bne_eq_false_iff_eq.mpr c27
            clear c27
            by_cases c28 : t138 = 0
            · rw [if_pos c28] at H
              have c28b0 : (t138 == 0) = true := beq_iff_eq.mpr c28
              have c28b1 : (t138 != 0) = false := bne_eq_false_iff_eq.mpr c28
              clear c28
              replace H := Option.bind_eq_some_iff.mp H
              obtain ⟨t146, A290, H⟩ := H
              replace H : (some (t146 == 6000)) = some r := H
              have A29 := Aside0.mk A290
              clear A290
              obtain rfl := Option.some.inj H
              go_wp2_with (first | ((with_reducible refine gate_callee (f := 14) rfl ?_); refine goesL_ (some 43) rfl rfl Try.func14 (by kernel_rfl) rfl #[.int .i64 t137] rfl (by (try simp only [List.map_toArray, List.map_cons, List.map_nil]); first | done | rfl | (simp only [List.length_drop, List.length_take]; rfl)) ?_; (with_reducible refine (impl_FixClamp.calls t137 t144 _ A25.out).mono ?_); rintro e w30 ⟨rfl, hb⟩; refine ⟨_, rfl, ?_⟩; have n0_ := Aside0.mk (below_step (by repeat (first | (with_reducible first | exact HB.out | apply below_alloc | apply pw_below_drewN | apply below_drew1) | exact HB.out)) hb); clear HB; have HB := n0_; clear n0_; (try clear hb); (try clear hb2); (try clear hk); (try clear hi); (try clear A25)) | ((with_reducible refine gate_callee (f := 17) rfl ?_); refine goesL_ (some 45) rfl rfl Try.func17 (by kernel_rfl) rfl #[.int .i64 t136, .int .i64 (wrap64 (-t144))] rfl (by (try simp only [List.map_toArray, List.map_cons, List.map_nil]); first | done | rfl | (simp only [List.length_drop, List.length_take]; rfl)) ?_; (with_reducible refine (impl_FixMul.calls t136 (wrap64 (-t144)) t145 _ A26.out).mono ?_); rintro e w31 ⟨rfl, hb⟩; refine ⟨_, rfl, ?_⟩; have n0_ := Aside0.mk (below_step (by repeat (first | (with_reducible first | exact HB.out | apply below_alloc | apply pw_below_drewN | apply below_drew1) | exact HB.out)) hb); clear HB; have HB := n0_; clear n0_; (try clear hb); (try clear hb2); (try clear hk); (try clear hi); (try clear A26)) | (go_at_call 17; (with_reducible refine (impl_FixMul.calls 2000 3000 t146 _ A29.out).mono ?_); rintro e w32 ⟨rfl, hb⟩; have n0_ := Aside0.mk (below_step (by repeat (first | (with_reducible first | exact HB.out | apply below_alloc | apply pw_below_drewN | apply below_drew1) | exact HB.out)) hb); clear HB; have HB := n0_; clear n0_; (try clear hb); (try clear hb2); (try clear hk); (try clear hi); (try clear A29)))
              go_ret
              exact ⟨by first | rfl | (simp [errW_none, errW_some] <;> rfl) | (simp [*, errW_none, errW_some] <;> rfl), by repeat (first | (with_reducible first | exact HB.out | apply below_alloc | apply pw_below_drewN | apply below_drew1) | exact HB.out)⟩
            · rw [if_neg c28] at H
              have c28b0 : (t138 == 0) = false := beq_eq_false_iff_ne.mpr c28
              have c28b1 : (t138 != 0) = true := bne_iff_ne.mpr c28
              by_cases c33 : ((decide (t138 > 0)) == ((decide (t136 > 0)) == (decide (t137 > 0)))) = true
              · rw [if_pos c33] at H
                have c33b0 : ((decide (t138 > 0)) == ((decide (t136 > 0)) == (decide (t137 > 0)))) = true := c33
                (try (have c33b1 : decide ((decide (t138 > 0)) = ((decide (t136 > 0)) == (decide (t137 > 0)))) = true := by simpa using c33))
                (try (have c33b2 : ((decide (t138 > 0)) == ((decide (t136 > 0)) == (decide (t137 > 0)))) = true := by simpa using c33))
                clear c33
                replace H := Option.bind_eq_some_iff.mp H
                obtain ⟨t147, A340, H⟩ := H
                replace H : (some (t147 == 6000)) = some r := H
                have A34 := Aside0.mk A340
                clear A340
                obtain rfl := Option.some.inj H
                go_wp2_with (first | ((with_reducible refine gate_callee (f := 14) rfl ?_); refine goesL_ (some 43) rfl rfl Try.func14 (by kernel_rfl) rfl #[.int .i64 t137] rfl (by (try simp only [List.map_toArray, List.map_cons, List.map_nil]); first | done | rfl | (simp only [List.length_drop, List.length_take]; rfl)) ?_; (with_reducible refine (impl_FixClamp.calls t137 t144 _ A25.out).mono ?_); rintro e w35 ⟨rfl, hb⟩; refine ⟨_, rfl, ?_⟩; have n0_ := Aside0.mk (below_step (by repeat (first | (with_reducible first | exact HB.out | apply below_alloc | apply pw_below_drewN | apply below_drew1) | exact HB.out)) hb); clear HB; have HB := n0_; clear n0_; (try clear hb); (try clear hb2); (try clear hk); (try clear hi); (try clear A25)) | ((with_reducible refine gate_callee (f := 17) rfl ?_); refine goesL_ (some 45) rfl rfl Try.func17 (by kernel_rfl) rfl #[.int .i64 t136, .int .i64 (wrap64 (-t144))] rfl (by (try simp only [List.map_toArray, List.map_cons, List.map_nil]); first | done | rfl | (simp only [List.length_drop, List.length_take]; rfl)) ?_; (with_reducible refine (impl_FixMul.calls t136 (wrap64 (-t144)) t145 _ A26.out).mono ?_); rintro e w36 ⟨rfl, hb⟩; refine ⟨_, rfl, ?_⟩; have n0_ := Aside0.mk (below_step (by repeat (first | (with_reducible first | exact HB.out | apply below_alloc | apply pw_below_drewN | apply below_drew1) | exact HB.out)) hb); clear HB; have HB := n0_; clear n0_; (try clear hb); (try clear hb2); (try clear hk); (try clear hi); (try clear A26)) | (go_at_call 17; (with_reducible refine (impl_FixMul.calls 2000 3000 t147 _ A34.out).mono ?_); rintro e w37 ⟨rfl, hb⟩; have n0_ := Aside0.mk (below_step (by repeat (first | (with_reducible first | exact HB.out | apply below_alloc | apply pw_below_drewN | apply below_drew1) | exact HB.out)) hb); clear HB; have HB := n0_; clear n0_; (try clear hb); (try clear hb2); (try clear hk); (try clear hi); (try clear A34)))
                go_ret
                exact ⟨by first | rfl | (simp [errW_none, errW_some] <;> rfl) | (simp [*, errW_none, errW_some] <;> rfl), by repeat (first | (with_reducible first | exact HB.out | apply below_alloc | apply pw_below_drewN | apply below_drew1) | exact HB.out)⟩
              · rw [if_neg c33] at H
                have c33b0 : ((decide (t138 > 0)) == ((decide (t136 > 0)) == (decide (t137 > 0)))) = false := by simpa using c33
                (try (have c33b1 : decide ((decide (t138 > 0)) = ((decide (t136 > 0)) == (decide (t137 > 0)))) = false := by simpa using c33))
                (try (have c33b2 : ((decide (t138 > 0)) == ((decide (t136 > 0)) == (decide (t137 > 0)))) = false := by simpa using c33))
                (try (have c33b3 : ¬ ((decide (t138 > 0)) = ((decide (t136 > 0)) == (decide (t137 > 0)))) := by simpa using c33))
                clear c33
                obtain rfl := Option.some.inj H
                go_wp2_with (first | ((with_reducible refine gate_callee (f := 14) rfl ?_); refine goesL_ (some 43) rfl rfl Try.func14 (by kernel_rfl) rfl #[.int .i64 t137] rfl (by (try simp only [List.map_toArray, List.map_cons, List.map_nil]); first | done | rfl | (simp only [List.length_drop, List.length_take]; rfl)) ?_; (with_reducible refine (impl_FixClamp.calls t137 t144 _ A25.out).mono ?_); rintro e w38 ⟨rfl, hb⟩; refine ⟨_, rfl, ?_⟩; have n0_ := Aside0.mk (below_step (by repeat (first | (with_reducible first | exact HB.out | apply below_alloc | apply pw_below_drewN | apply below_drew1) | exact HB.out)) hb); clear HB; have HB := n0_; clear n0_; (try clear hb); (try clear hb2); (try clear hk); (try clear hi); (try clear A25)) | ((with_reducible refine gate_callee (f := 17) rfl ?_); refine goesL_ (some 45) rfl rfl Try.func17 (by kernel_rfl) rfl #[.int .i64 t136, .int .i64 (wrap64 (-t144))] rfl (by (try simp only [List.map_toArray, List.map_cons, List.map_nil]); first | done | rfl | (simp only [List.length_drop, List.length_take]; rfl)) ?_; (with_reducible refine (impl_FixMul.calls t136 (wrap64 (-t144)) t145 _ A26.out).mono ?_); rintro e w39 ⟨rfl, hb⟩; refine ⟨_, rfl, ?_⟩; have n0_ := Aside0.mk (below_step (by repeat (first | (with_reducible first | exact HB.out | apply below_alloc | apply pw_below_drewN | apply below_drew1) | exact HB.out)) hb); clear HB; have HB := n0_; clear n0_; (try clear hb); (try clear hb2); (try clear hk); (try clear hi); (try clear A26)))
                go_ret
                exact ⟨by first | rfl | (simp [errW_none, errW_some] <;> rfl) | (simp [*, errW_none, errW_some] <;> rfl), by repeat (first | (with_reducible first | exact HB.out | apply below_alloc | apply pw_below_drewN | apply below_drew1) | exact HB.out)⟩
          · rw [if_neg c27] at H
            have c27b0 : (t145 == (wrap64 (-t138))) = false := beq_eq_false_iff_ne.mpr c27
            have c27b1 : (t145 != (wrap64 (-t138))) = true := bne_iff_ne.mpr c27
            obtain rfl := Option.some.inj H
            go_wp2_with (first | ((with_reducible refine gate_callee (f := 14) rfl ?_); refine goesL_ (some 43) rfl rfl Try.func14 (by kernel_rfl) rfl #[.int .i64 t137] rfl (by (try simp only [List.map_toArray, List.map_cons, List.map_nil]); first | done | rfl | (simp only [List.length_drop, List.length_take]; rfl)) ?_; (with_reducible refine (impl_FixClamp.calls t137 t144 _ A25.out).mono ?_); rintro e w40 ⟨rfl, hb⟩; refine ⟨_, rfl, ?_⟩; have n0_ := Aside0.mk (below_step (by repeat (first | (with_reducible first | exact HB.out | apply below_alloc | apply pw_below_drewN | apply below_drew1) | exact HB.out)) hb); clear HB; have HB := n0_; clear n0_; (try clear hb); (try clear hb2); (try clear hk); (try clear hi); (try clear A25)) | ((with_reducible refine gate_callee (f := 17) rfl ?_); refine goesL_ (some 45) rfl rfl Try.func17 (by kernel_rfl) rfl #[.int .i64 t136, .int .i64 (wrap64 (-t144))] rfl (by (try simp only [List.map_toArray, List.map_cons, List.map_nil]); first | done | rfl | (simp only [List.length_drop, List.length_take]; rfl)) ?_; (with_reducible refine (impl_FixMul.calls t136 (wrap64 (-t144)) t145 _ A26.out).mono ?_); rintro e w41 ⟨rfl, hb⟩; refine ⟨_, rfl, ?_⟩; have n0_ := Aside0.mk (below_step (by repeat (first | (with_reducible first | exact HB.out | apply below_alloc | apply pw_below_drewN | apply below_drew1) | exact HB.out)) hb); clear HB; have HB := n0_; clear n0_; (try clear hb); (try clear hb2); (try clear hk); (try clear hi); (try clear A26)))
            go_ret
            exact ⟨by first | rfl | (simp [errW_none, errW_some] <;> rfl) | (simp [*, errW_none, errW_some] <;> rfl), by repeat (first | (with_reducible first | exact HB.out | apply below_alloc | apply pw_below_drewN | apply below_drew1) | exact HB.out)⟩

/-- THE ONE PURE STATEMENT of laws_FnFixMul: yours. -/
def laws_FnFixMul.Pure : Prop := ∀ (l0 : List Int), l0.length ≤ maxLen → l0.length * 1 ≤ 140737488351232 → (∀ x ∈ l0, (Lit.int .u8 x).wf = true) → ∃ k, laws_FnFixMul.f k l0 = some true
theorem laws_FnFixMul.walk (P : laws_FnFixMul.Pure) (a0 : Option Addr) (len0 cap0 : Nat) (z0 : List Int) (w : World) (w0 : (a0 = none ∧ len0 = 0 ∧ cap0 = 0 ∧ z0 = []) ∨ ∃ x, a0 = some x ∧ len0 ≤ cap0 ∧ cap0 ≤ maxLen ∧ z0.length = cap0 ∧ (∀ i, i < z0.length → w.cell? (x.add i) = some (.int .u8 (z0.getD i 0))) ∧ ∀ n ∈ z0, (Lit.int .u8 n).wf = true) (y0 : len0 * 1 ≤ 140737488351232) :
    Calls Try.prog 4 #[.slice a0 len0 cap0] w fun e w' => e = .returned (.bool true) ∧ Below w.heap.size w w' := by
  obtain ⟨l0, rfl, hr0, hm0, hw0, hc0⟩ := ReadsInt.ofRowC w0
  obtain ⟨k, h⟩ := P l0 hm0 y0 hw0
  refine (laws_FnFixMul.calls k _ _ l0 true w (Kd.C_of_reads (d := (0 : Int)) (h1 := fun _ => rfl) hr0) hc0 h).mono ?_
  rintro e w' ⟨rfl, hd⟩
  exact ⟨rfl, hd⟩

end Go.Proofs.Ytacbmhkdeceomaa.PFnFixMul
