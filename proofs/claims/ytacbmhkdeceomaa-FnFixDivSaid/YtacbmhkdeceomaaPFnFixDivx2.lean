/- Written by a program of this session (a turned copy of a tool of the kit): functions of the program as plain functions, and that each call does what they tell. Conditions: none. -/
import Derived.Test.YtacbmhkdeceomaaPFnFixDivx0
import Derived.Test.YtacbmhkdeceomaaPFnFixDivx1
namespace Go.Proofs.Ytacbmhkdeceomaa.PFnFixDiv
open Go.RowKit Go.Proofs.YtacbmhkdeceomaaW.PrintWords Go.Proofs.YtacbmhkdeceomaaW.PrintLast Go.Proofs.YtacbmhkdeceomaaW.PrintMore
attribute [local go_sem] max2_int min2_int max_two min_two max_three min_three max_four min_four   -- for this text's walks alone
set_option linter.unusedVariables false
set_option linter.unusedSimpArgs false

/-! ### laws_FnFixDiv: function 7 -/
mutual
def laws_FnFixDiv.j0 : Nat → Int → Int → Int → Bool → Option (Bool)
  | 0, _, _, _, _ => none
  | k + 1, x3, x4, x5, x34 => if x34 = true then (some false) else ((impl_FixClamp.f x3).bind fun t143 => ((impl_FixClamp.f x4).bind fun t144 => (if t144 = 0 then (laws_FnFixDiv.j1 k x5 t143 t144 true) else ((laws_lhAbs.f x5).bind fun t145 => (laws_FnFixDiv.j1 k x5 t143 t144 (t145 == 1000000000))))))
def laws_FnFixDiv.j1 : Nat → Int → Int → Int → Bool → Option (Bool)
  | 0, _, _, _, _ => none
  | k + 1, x5, x6, x7, x45 => if x45 = true then (if x7 = 0 then (if x6 = 0 then (if x5 = 0 then (some true) else (if x5 = 1000000000 then (some true) else (some (x5 == (-1000000000))))) else (if x5 = 1000000000 then (some true) else (some (x5 == (-1000000000))))) else (some true)) else ((laws_lhAbs.f (wrap64 ((wrap64 (x6 * 1000)) - (wrap64 (x5 * x7))))).bind fun t146 => ((laws_lhAbs.f x7).bind fun t147 => (some (decide (t146 < t147)))))
end
def laws_FnFixDiv.f (k : Nat) (l0 : List Int) : Option (Bool) := if (l0.length : Int) > 1048576 then (some true) else ((spec_DrawFixDiv.f k l0).bind fun bt136 => ((impl_FixDiv.f bt136.1 bt136.2).bind fun t138 => ((spec_FixDiv.f bt136.1 bt136.2).bind fun t139 => (if t138 = t139 then ((impl_FixDiv.f bt136.1 1000).bind fun t140 => ((impl_FixClamp.f bt136.1).bind fun t141 => (if t140 = t141 then ((impl_FixDiv.f 6000 2000).bind fun t142 => (laws_FnFixDiv.j0 k bt136.1 bt136.2 t138 (t142 != 3000))) else (laws_FnFixDiv.j0 k bt136.1 bt136.2 t138 true)))) else (laws_FnFixDiv.j0 k bt136.1 bt136.2 t138 true)))))
theorem laws_FnFixDiv.mono_l : ∀ k, (∀ y0 y1 y2 y3, LeO (laws_FnFixDiv.j0 k y0 y1 y2 y3) (laws_FnFixDiv.j0 (k + 1) y0 y1 y2 y3)) ∧ (∀ y0 y1 y2 y3, LeO (laws_FnFixDiv.j1 k y0 y1 y2 y3) (laws_FnFixDiv.j1 (k + 1) y0 y1 y2 y3))
  | 0 => ⟨fun _ _ _ _ r h => by simp [laws_FnFixDiv.j0] at h, fun _ _ _ _ r h => by simp [laws_FnFixDiv.j1] at h⟩
  | k + 1 => by
    obtain ⟨ih0, ih1⟩ := laws_FnFixDiv.mono_l k
    refine ⟨?_, ?_⟩
    · intro y0 y1 y2 y3
      unfold laws_FnFixDiv.j0
      repeat' first
      | (with_reducible exact ih0 _ _ _ _)
      | (with_reducible exact ih1 _ _ _ _)
      | (with_reducible exact spec_DrawFixDiv.mono _ _)
      | (with_reducible exact LeO.refl _)
      | (with_reducible exact LeO.none _)
      | (with_reducible refine LeO.ite ?_ ?_)
      | (with_reducible refine LeO.bind ?_ (fun _ => ?_))
      | exact ih0 _ _ _ _
      | exact ih1 _ _ _ _
      | exact spec_DrawFixDiv.mono _ _
      | exact LeO.none _
      | refine LeO.ite ?_ ?_
      | refine LeO.bind ?_ (fun _ => ?_)
    · intro y0 y1 y2 y3
      unfold laws_FnFixDiv.j1
      repeat' first
      | (with_reducible exact ih0 _ _ _ _)
      | (with_reducible exact ih1 _ _ _ _)
      | (with_reducible exact spec_DrawFixDiv.mono _ _)
      | (with_reducible exact LeO.refl _)
      | (with_reducible exact LeO.none _)
      | (with_reducible refine LeO.ite ?_ ?_)
      | (with_reducible refine LeO.bind ?_ (fun _ => ?_))
      | exact ih0 _ _ _ _
      | exact ih1 _ _ _ _
      | exact spec_DrawFixDiv.mono _ _
      | exact LeO.none _
      | refine LeO.ite ?_ ?_
      | refine LeO.bind ?_ (fun _ => ?_)
theorem laws_FnFixDiv.mono : ∀ a0 k, LeO (laws_FnFixDiv.f k a0) (laws_FnFixDiv.f (k + 1) a0) := by
  intro a0 k
  obtain ⟨ih0, ih1⟩ := laws_FnFixDiv.mono_l k
  unfold laws_FnFixDiv.f
  repeat' first
      | (with_reducible exact ih0 _ _ _ _)
      | (with_reducible exact ih1 _ _ _ _)
      | (with_reducible exact spec_DrawFixDiv.mono _ _)
      | (with_reducible exact LeO.refl _)
      | (with_reducible exact LeO.none _)
      | (with_reducible refine LeO.ite ?_ ?_)
      | (with_reducible refine LeO.bind ?_ (fun _ => ?_))
      | exact ih0 _ _ _ _
      | exact ih1 _ _ _ _
      | exact spec_DrawFixDiv.mono _ _
      | exact LeO.none _
      | refine LeO.ite ?_ ?_
      | refine LeO.bind ?_ (fun _ => ?_)
set_option maxHeartbeats 8000000 in
set_option maxRecDepth 100000 in
theorem laws_FnFixDiv.calls (k : Nat) (A0 : Option Addr) (c0 : Nat) (l0 : List Int) (r : Bool) (w : World) (hr0 : Kd.C (Kd.int .u8) w A0 l0.length l0) (hc0 : l0.length ≤ c0) (h : laws_FnFixDiv.f k l0 = some r) :
    Calls Try.prog 7 #[.slice A0 l0.length c0] w fun e w' => e = .returned (.bool r) ∧ Below w.heap.size w w' := by
  have HR0 := Aside0.mk hr0
  have HC0 := Aside0.mk hc0
  clear hr0 hc0
  have HB := Aside0.mk (Below.refl w.heap.size w)
  have H : (if (l0.length : Int) > 1048576 then (some true) else ((spec_DrawFixDiv.f k l0).bind fun bt136 => ((impl_FixDiv.f bt136.1 bt136.2).bind fun t138 => ((spec_FixDiv.f bt136.1 bt136.2).bind fun t139 => (if t138 = t139 then ((impl_FixDiv.f bt136.1 1000).bind fun t140 => ((impl_FixClamp.f bt136.1).bind fun t141 => (if t140 = t141 then ((impl_FixDiv.f 6000 2000).bind fun t142 => (laws_FnFixDiv.j0 k bt136.1 bt136.2 t138 (t142 != 3000))) else (laws_FnFixDiv.j0 k bt136.1 bt136.2 t138 true)))) else (laws_FnFixDiv.j0 k bt136.1 bt136.2 t138 true)))))) = some r := h
  clear h
  by_cases c2 : (l0.length : Int) > 1048576
  · rw [if_pos c2] at H
    have c2b0 : decide (1048576 < (l0.length : Int)) = true := decide_eq_true c2
    have c2b1 : decide (1048576 < l0.length) = true := decide_eq_true (by omega)
    clear c2
    obtain rfl := Option.some.inj H
    go_enter Try.func7, Try.ntmps7
    go_wp2
    go_ret
    exact ⟨by first | rfl | (simp [errW_none, errW_some] <;> rfl) | (simp [*, errW_none, errW_some] <;> rfl), by repeat (first | (with_reducible first | exact HB.out | apply below_alloc | apply pw_below_drewN | apply below_drew1) | exact HB.out)⟩
  · rw [if_neg c2] at H
    have c2b0 : decide (1048576 < (l0.length : Int)) = false := decide_eq_false c2
    have c2b1 : decide (1048576 < l0.length) = false := decide_eq_false (by omega)
    clear c2
    replace H := Option.bind_eq_some_iff.mp H
    obtain ⟨⟨t136, t137⟩, A30, H⟩ := H
    replace H : ((impl_FixDiv.f t136 t137).bind fun t138 => ((spec_FixDiv.f t136 t137).bind fun t139 => (if t138 = t139 then ((impl_FixDiv.f t136 1000).bind fun t140 => ((impl_FixClamp.f t136).bind fun t141 => (if t140 = t141 then ((impl_FixDiv.f 6000 2000).bind fun t142 => (laws_FnFixDiv.j0 k t136 t137 t138 (t142 != 3000))) else (laws_FnFixDiv.j0 k t136 t137 t138 true)))) else (laws_FnFixDiv.j0 k t136 t137 t138 true)))) = some r := H
    have A3 := Aside0.mk A30
    clear A30
    replace H := Option.bind_eq_some_iff.mp H
    obtain ⟨t138, A40, H⟩ := H
    replace H : ((spec_FixDiv.f t136 t137).bind fun t139 => (if t138 = t139 then ((impl_FixDiv.f t136 1000).bind fun t140 => ((impl_FixClamp.f t136).bind fun t141 => (if t140 = t141 then ((impl_FixDiv.f 6000 2000).bind fun t142 => (laws_FnFixDiv.j0 k t136 t137 t138 (t142 != 3000))) else (laws_FnFixDiv.j0 k t136 t137 t138 true)))) else (laws_FnFixDiv.j0 k t136 t137 t138 true))) = some r := H
    have A4 := Aside0.mk A40
    clear A40
    have HC5 := Aside0.mk H
    clear H
    go_enter Try.func7, Try.ntmps7
    go_upto_region 5 with (first | ((with_reducible refine gate_callee (f := 26) rfl ?_); refine goesL_ (some 13) rfl rfl Try.func26 (by kernel_rfl) rfl #[.slice A0 l0.length c0] rfl (by (try simp only [List.map_toArray, List.map_cons, List.map_nil]); first | done | rfl | (simp only [List.length_drop, List.length_take]; rfl)) ?_; (with_reducible refine (spec_DrawFixDiv.calls k _ _ l0 t136 t137 _ ?side1 ?side2 A3.out).mono ?_); (case side1 => repeat (first | exact HR0.out | (with_reducible refine Kd.C_alloc ?_ _) | (with_reducible refine Kd.C_drewN ?_ _) | (with_reducible refine Kd.C_drew ?_))); (case side2 => exact HC0.out); rintro e w6 ⟨rfl, hb⟩; refine ⟨_, rfl, ?_⟩; have n0_ := Aside0.mk (below_step (by repeat (first | (with_reducible first | exact HB.out | apply below_alloc | apply pw_below_drewN | apply below_drew1) | exact HB.out)) hb); clear HB; have HB := n0_; clear n0_; (try clear hb); (try clear hb2); (try clear hk); (try clear hi); (try clear A3)) | ((with_reducible refine gate_callee (f := 27) rfl ?_); refine goesL_ (some 18) rfl rfl Try.func27 (by kernel_rfl) rfl #[.int .i64 t136, .int .i64 t137] rfl (by (try simp only [List.map_toArray, List.map_cons, List.map_nil]); first | done | rfl | (simp only [List.length_drop, List.length_take]; rfl)) ?_; (with_reducible refine (impl_FixDiv.calls t136 t137 t138 _ A4.out).mono ?_); rintro e w7 ⟨rfl, hb⟩; refine ⟨_, rfl, ?_⟩; have n0_ := Aside0.mk (below_step (by repeat (first | (with_reducible first | exact HB.out | apply below_alloc | apply pw_below_drewN | apply below_drew1) | exact HB.out)) hb); clear HB; have HB := n0_; clear n0_; (try clear hb); (try clear hb2); (try clear hk); (try clear hi); (try clear A4)))
    (try simp only [Act.put, List.setIfInBounds_toArray, List.set_cons_zero, List.set_cons_succ])
    go_cut [34] (fun v34 wc => ∃ (kq : Nat) (x34_4 : Bool), v34 = .bool x34_4 ∧ Aside0 (laws_FnFixDiv.j0 kq t136 t137 t138 x34_4 = some r) ∧ Aside0 (kq ≤ k) ∧ Aside0 (Below w.heap.size w wc))
    case first =>
      have H := HC5.out
      clear HC5
      replace H := Option.bind_eq_some_iff.mp H
      obtain ⟨t139, A80, H⟩ := H
      replace H : (if t138 = t139 then ((impl_FixDiv.f t136 1000).bind fun t140 => ((impl_FixClamp.f t136).bind fun t141 => (if t140 = t141 then ((impl_FixDiv.f 6000 2000).bind fun t142 => (laws_FnFixDiv.j0 k t136 t137 t138 (t142 != 3000))) else (laws_FnFixDiv.j0 k t136 t137 t138 true)))) else (laws_FnFixDiv.j0 k t136 t137 t138 true)) = some r := H
      have A8 := Aside0.mk A80
      clear A80
      by_cases c9 : t138 = t139
      · rw [if_pos c9] at H
        have c9b0 : (t138 == t139) = true := beq_iff_eq.mpr c9
        have c9b1 : (t138 != t139) = false := bne_eq_false_iff_eq.mpr c9
        clear c9
        (first | rw [c9b0] | (simp only [i64_w, i32_w]; rw [c9b0]) | skip)
        replace H := Option.bind_eq_some_iff.mp H
        obtain ⟨t140, A100, H⟩ := H
        replace H : ((impl_FixClamp.f t136).bind fun t141 => (if t140 = t141 then ((impl_FixDiv.f 6000 2000).bind fun t142 => (laws_FnFixDiv.j0 k t136 t137 t138 (t142 != 3000))) else (laws_FnFixDiv.j0 k t136 t137 t138 true))) = some r := H
        have A10 := Aside0.mk A100
        clear A100
        replace H := Option.bind_eq_some_iff.mp H
        obtain ⟨t141, A110, H⟩ := H
        replace H : (if t140 = t141 then ((impl_FixDiv.f 6000 2000).bind fun t142 => (laws_FnFixDiv.j0 k t136 t137 t138 (t142 != 3000))) else (laws_FnFixDiv.j0 k t136 t137 t138 true)) = some r := H
        have A11 := Aside0.mk A110
        clear A110
        by_cases c12 : t140 = t141
        · rw [if_pos c12] at H
          have c12b0 : (t140 == t141) = true := beq_iff_eq.mpr c12
          have c12b1 : (t140 != t141) = false := bne_eq_false_iff_eq.mpr c12
          clear c12
          replace H := Option.bind_eq_some_iff.mp H
          obtain ⟨t142, A130, H⟩ := H
          replace H : (laws_FnFixDiv.j0 k t136 t137 t138 (t142 != 3000)) = some r := H
          have A13 := Aside0.mk A130
          clear A130
          have H' := Aside0.mk H
          clear H
          go_wp2_with (first | ((with_reducible refine gate_callee (f := 28) rfl ?_); refine goesL_ (some 22) rfl rfl Try.func28 (by kernel_rfl) rfl #[.int .i64 t136, .int .i64 t137] rfl (by (try simp only [List.map_toArray, List.map_cons, List.map_nil]); first | done | rfl | (simp only [List.length_drop, List.length_take]; rfl)) ?_; (with_reducible refine (spec_FixDiv.calls t136 t137 t139 _ A8.out).mono ?_); rintro e w' ⟨rfl, ⟨nd, rfl⟩⟩; refine ⟨_, rfl, ?_⟩; (try clear A8)) | (go_at_call 27; (with_reducible refine (impl_FixDiv.calls t136 1000 t140 _ A10.out).mono ?_); rintro e w14 ⟨rfl, hb⟩; have n0_ := Aside0.mk (below_step (by repeat (first | (with_reducible first | exact HB.out | apply below_alloc | apply pw_below_drewN | apply below_drew1) | exact HB.out)) hb); clear HB; have HB := n0_; clear n0_; (try clear hb); (try clear hb2); (try clear hk); (try clear hi); (try clear A10)) | (go_at_call 14; (with_reducible refine (impl_FixClamp.calls t136 t141 _ A11.out).mono ?_); rintro e w15 ⟨rfl, hb⟩; have n0_ := Aside0.mk (below_step (by repeat (first | (with_reducible first | exact HB.out | apply below_alloc | apply pw_below_drewN | apply below_drew1) | exact HB.out)) hb); clear HB; have HB := n0_; clear n0_; (try clear hb); (try clear hb2); (try clear hk); (try clear hi); (try clear A11)) | (go_at_call 27; (with_reducible refine (impl_FixDiv.calls 6000 2000 t142 _ A13.out).mono ?_); rintro e w16 ⟨rfl, hb⟩; have n0_ := Aside0.mk (below_step (by repeat (first | (with_reducible first | exact HB.out | apply below_alloc | apply pw_below_drewN | apply below_drew1) | exact HB.out)) hb); clear HB; have HB := n0_; clear n0_; (try clear hb); (try clear hb2); (try clear hk); (try clear hi); (try clear A13)))
          go_meet
          case rel => exact ⟨_, ((t142 != 3000)), (by first | rfl | (simp; done) | (simp [*]; done)), H', ⟨by first | omega | exact Nat.le_refl _⟩, ⟨by repeat (first | (with_reducible first | exact HB.out | apply below_alloc | apply pw_below_drewN | apply below_drew1) | exact HB.out)⟩⟩
        · rw [if_neg c12] at H
          have c12b0 : (t140 == t141) = false := beq_eq_false_iff_ne.mpr c12
          have c12b1 : (t140 != t141) = true := bne_iff_ne.mpr c12
          have H' := Aside0.mk H
          clear H
          go_wp2_with (first | ((with_reducible refine gate_callee (f := 28) rfl ?_); refine goesL_ (some 22) rfl rfl Try.func28 (by kernel_rfl) rfl #[.int .i64 t136, .int .i64 t137] rfl (by (try simp only [List.map_toArray, List.map_cons, List.map_nil]); first | done | rfl | (simp only [List.length_drop, List.length_take]; rfl)) ?_; (with_reducible refine (spec_FixDiv.calls t136 t137 t139 _ A8.out).mono ?_); rintro e w' ⟨rfl, ⟨nd, rfl⟩⟩; refine ⟨_, rfl, ?_⟩; (try clear A8)) | (go_at_call 27; (with_reducible refine (impl_FixDiv.calls t136 1000 t140 _ A10.out).mono ?_); rintro e w17 ⟨rfl, hb⟩; have n0_ := Aside0.mk (below_step (by repeat (first | (with_reducible first | exact HB.out | apply below_alloc | apply pw_below_drewN | apply below_drew1) | exact HB.out)) hb); clear HB; have HB := n0_; clear n0_; (try clear hb); (try clear hb2); (try clear hk); (try clear hi); (try clear A10)) | (go_at_call 14; (with_reducible refine (impl_FixClamp.calls t136 t141 _ A11.out).mono ?_); rintro e w18 ⟨rfl, hb⟩; have n0_ := Aside0.mk (below_step (by repeat (first | (with_reducible first | exact HB.out | apply below_alloc | apply pw_below_drewN | apply below_drew1) | exact HB.out)) hb); clear HB; have HB := n0_; clear n0_; (try clear hb); (try clear hb2); (try clear hk); (try clear hi); (try clear A11)))
          go_meet
          case rel => exact ⟨_, (true), (by first | rfl | (simp; done) | (simp [*]; done)), H', ⟨by first | omega | exact Nat.le_refl _⟩, ⟨by repeat (first | (with_reducible first | exact HB.out | apply below_alloc | apply pw_below_drewN | apply below_drew1) | exact HB.out)⟩⟩
      · rw [if_neg c9] at H
        have c9b0 : (t138 == t139) = false := beq_eq_false_iff_ne.mpr c9
        have c9b1 : (t138 != t139) = true := bne_iff_ne.mpr c9
        (first | rw [c9b0] | (simp only [i64_w, i32_w]; rw [c9b0]) | skip)
        have H' := Aside0.mk H
        clear H
        go_wp2_with (first | ((with_reducible refine gate_callee (f := 28) rfl ?_); refine goesL_ (some 22) rfl rfl Try.func28 (by kernel_rfl) rfl #[.int .i64 t136, .int .i64 t137] rfl (by (try simp only [List.map_toArray, List.map_cons, List.map_nil]); first | done | rfl | (simp only [List.length_drop, List.length_take]; rfl)) ?_; (with_reducible refine (spec_FixDiv.calls t136 t137 t139 _ A8.out).mono ?_); rintro e w' ⟨rfl, ⟨nd, rfl⟩⟩; refine ⟨_, rfl, ?_⟩; (try clear A8)))
        go_meet
        case rel => exact ⟨_, (true), (by first | rfl | (simp; done) | (simp [*]; done)), H', ⟨by first | omega | exact Nat.le_refl _⟩, ⟨by repeat (first | (with_reducible first | exact HB.out | apply below_alloc | apply pw_below_drewN | apply below_drew1) | exact HB.out)⟩⟩
    case rest =>
      clear HC5
      try clear c1
      try clear c2
      try clear c2b0
      try clear c2b1
      try clear p2
      try clear c7
      try clear c9
      try clear c9b0
      try clear c9b1
      try clear c12
      try clear c12b0
      try clear c12b1
      obtain ⟨kq, x34_4, rfl, HA, HJ4, HB⟩ := hcut
      cases kq with
      | zero => exact absurd HA.out (by simp [laws_FnFixDiv.j0])
      | succ kj4 =>
        have H := HA.out
        clear HA
        simp only [laws_FnFixDiv.j0] at H
        by_cases c19 : x34_4 = true
        · subst c19
          have H1 : (some false) = some r := by rw [if_pos rfl] at H; exact H
          clear H
          have H := H1
          clear H1
          obtain rfl := Option.some.inj H
          go_wp2
          go_ret
          exact ⟨by first | rfl | (simp [errW_none, errW_some] <;> rfl) | (simp [*, errW_none, errW_some] <;> rfl), by repeat (first | (with_reducible first | exact HB.out | apply below_alloc | apply pw_below_drewN | apply below_drew1) | exact HB.out)⟩
        · replace c19 := Bool.eq_false_iff.mpr c19
          subst c19
          have H1 : ((impl_FixClamp.f t136).bind fun t143 => ((impl_FixClamp.f t137).bind fun t144 => (if t144 = 0 then (laws_FnFixDiv.j1 kj4 t138 t143 t144 true) else ((laws_lhAbs.f t138).bind fun t145 => (laws_FnFixDiv.j1 kj4 t138 t143 t144 (t145 == 1000000000)))))) = some r := by rw [if_neg (show ¬ (false = true) by decide)] at H; exact H
          clear H
          have H := H1
          clear H1
          replace H := Option.bind_eq_some_iff.mp H
          obtain ⟨t143, A200, H⟩ := H
          replace H : ((impl_FixClamp.f t137).bind fun t144 => (if t144 = 0 then (laws_FnFixDiv.j1 kj4 t138 t143 t144 true) else ((laws_lhAbs.f t138).bind fun t145 => (laws_FnFixDiv.j1 kj4 t138 t143 t144 (t145 == 1000000000))))) = some r := H
          have A20 := Aside0.mk A200
          clear A200
          replace H := Option.bind_eq_some_iff.mp H
          obtain ⟨t144, A210, H⟩ := H
          replace H : (if t144 = 0 then (laws_FnFixDiv.j1 kj4 t138 t143 t144 true) else ((laws_lhAbs.f t138).bind fun t145 => (laws_FnFixDiv.j1 kj4 t138 t143 t144 (t145 == 1000000000)))) = some r := H
          have A21 := Aside0.mk A210
          clear A210
          have HC22 := Aside0.mk H
          clear H
          go_upto_region 9 with (first | ((with_reducible refine gate_callee (f := 14) rfl ?_); refine goesL_ (some 36) rfl rfl Try.func14 (by kernel_rfl) rfl #[.int .i64 t136] rfl (by (try simp only [List.map_toArray, List.map_cons, List.map_nil]); first | done | rfl | (simp only [List.length_drop, List.length_take]; rfl)) ?_; (with_reducible refine (impl_FixClamp.calls t136 t143 _ A20.out).mono ?_); rintro e w23 ⟨rfl, hb⟩; refine ⟨_, rfl, ?_⟩; have n0_ := Aside0.mk (below_step (by repeat (first | (with_reducible first | exact HB.out | apply below_alloc | apply pw_below_drewN | apply below_drew1) | exact HB.out)) hb); clear HB; have HB := n0_; clear n0_; (try clear hb); (try clear hb2); (try clear hk); (try clear hi); (try clear A20)) | ((with_reducible refine gate_callee (f := 14) rfl ?_); refine goesL_ (some 38) rfl rfl Try.func14 (by kernel_rfl) rfl #[.int .i64 t137] rfl (by (try simp only [List.map_toArray, List.map_cons, List.map_nil]); first | done | rfl | (simp only [List.length_drop, List.length_take]; rfl)) ?_; (with_reducible refine (impl_FixClamp.calls t137 t144 _ A21.out).mono ?_); rintro e w24 ⟨rfl, hb⟩; refine ⟨_, rfl, ?_⟩; have n0_ := Aside0.mk (below_step (by repeat (first | (with_reducible first | exact HB.out | apply below_alloc | apply pw_below_drewN | apply below_drew1) | exact HB.out)) hb); clear HB; have HB := n0_; clear n0_; (try clear hb); (try clear hb2); (try clear hk); (try clear hi); (try clear A21)))
          (try simp only [Act.put, List.setIfInBounds_toArray, List.set_cons_zero, List.set_cons_succ])
          go_cut [45] (fun v45 wc => ∃ (kq : Nat) (x45_21 : Bool), v45 = .bool x45_21 ∧ Aside0 (laws_FnFixDiv.j1 kq t138 t143 t144 x45_21 = some r) ∧ Aside0 (kq ≤ kj4) ∧ Aside0 (Below w.heap.size w wc))
          case first =>
            have H := HC22.out
            clear HC22
            by_cases c25 : t144 = 0
            · rw [if_pos c25] at H
              have c25b0 : (t144 == 0) = true := beq_iff_eq.mpr c25
              have c25b1 : (t144 != 0) = false := bne_eq_false_iff_eq.mpr c25
              clear c25
              (first | rw [c25b0] | (simp only [i64_w, i32_w]; rw [c25b0]) | skip)
              have H' := Aside0.mk H
              clear H
              go_wp2
              go_meet
              case rel => exact ⟨_, (true), (by first | rfl | (simp; done) | (simp [*]; done)), H', ⟨by have := HJ4.out; first | omega | exact Nat.le_refl _⟩, ⟨by repeat (first | (with_reducible first | exact HB.out | apply below_alloc | apply pw_below_drewN | apply below_drew1) | exact HB.out)⟩⟩
            · rw [if_neg c25] at H
              have c25b0 : (t144 == 0) = false := beq_eq_false_iff_ne.mpr c25
              have c25b1 : (t144 != 0) = true := bne_iff_ne.mpr c25
              (first | rw [c25b0] | (simp only [i64_w, i32_w]; rw [c25b0]) | skip)
              replace H := Option.bind_eq_some_iff.mp H
              obtain ⟨t145, A260, H⟩ := H
              replace H : (laws_FnFixDiv.j1 kj4 t138 t143 t144 (t145 == 1000000000)) = some r := H
              have A26 := Aside0.mk A260
              clear A260
              have H' := Aside0.mk H
              clear H
              go_wp2_with (first | (go_at_call 29; (with_reducible refine (laws_lhAbs.calls t138 t145 _ A26.out).mono ?_); rintro e w' ⟨rfl, ⟨nd, rfl⟩⟩; (try clear A26)))
              go_meet
              case rel => exact ⟨_, ((t145 == 1000000000)), (by first | rfl | (simp; done) | (simp [*]; done)), H', ⟨by have := HJ4.out; first | omega | exact Nat.le_refl _⟩, ⟨by repeat (first | (with_reducible first | exact HB.out | apply below_alloc | apply pw_below_drewN | apply below_drew1) | exact HB.out)⟩⟩
          case rest =>
            clear HC22
            try clear c1
            try clear c2
            try clear c2b0
            try clear c2b1
            try clear p2
            try clear c7
            try clear c9
            try clear c9b0
            try clear c9b1
            try clear c12
            try clear c12b0
            try clear c12b1
            try clear c14
            try clear c19
            try clear c25
            try clear c25b0
            try clear c25b1
            try clear c26
            try clear p2
            obtain ⟨kq, x45_21, rfl, HA, HJ21, HB⟩ := hcut
            cases kq with
            | zero => exact absurd HA.out (by simp [laws_FnFixDiv.j1])
            | succ kj21 =>
              have H := HA.out
              clear HA
              simp only [laws_FnFixDiv.j1] at H
              by_cases c27 : x45_21 = true
              · subst c27
                have H1 : (if t144 = 0 then (if t143 = 0 then (if t138 = 0 then (some true) else (if t138 = 1000000000 then (some true) else (some (t138 == (-1000000000))))) else (if t138 = 1000000000 then (some true) else (some (t138 == (-1000000000))))) else (some true)) = some r := by rw [if_pos rfl] at H; exact H
                clear H
                have H := H1
                clear H1
                by_cases c28 : t144 = 0
                · rw [if_pos c28] at H
                  have c28b0 : (t144 == 0) = true := beq_iff_eq.mpr c28
                  have c28b1 : (t144 != 0) = false := bne_eq_false_iff_eq.mpr c28
                  clear c28
                  by_cases c29 : t143 = 0
                  · rw [if_pos c29] at H
                    have c29b0 : (t143 == 0) = true := beq_iff_eq.mpr c29
                    have c29b1 : (t143 != 0) = false := bne_eq_false_iff_eq.mpr c29
                    clear c29
                    by_cases c30 : t138 = 0
                    · rw [if_pos c30] at H
                      have c30b0 : (t138 == 0) = true := beq_iff_eq.mpr c30
                      have c30b1 : (t138 != 0) = false := bne_eq_false_iff_eq.mpr c30
                      clear c30
                      obtain rfl := Option.some.inj H
                      go_wp2
                      go_ret
                      exact ⟨by first | rfl | (simp [errW_none, errW_some] <;> rfl) | (simp [*, errW_none, errW_some] <;> rfl), by repeat (first | (with_reducible first | exact HB.out | apply below_alloc | apply pw_below_drewN | apply below_drew1) | exact HB.out)⟩
                    · rw [if_neg c30] at H
                      have c30b0 : (t138 == 0) = false := beq_eq_false_iff_ne.mpr c30
                      have c30b1 : (t138 != 0) = true := bne_iff_ne.mpr c30
                      by_cases c31 : t138 = 1000000000
                      · rw [if_pos c31] at H
                        have c31b0 : (t138 == 1000000000) = true := beq_iff_eq.mpr c31
                        have c31b1 : (t138 != 1000000000) = false := bne_eq_false_iff_eq.mpr c31
                        clear c31
                        obtain rfl := Option.some.inj H
                        go_wp2
                        go_ret
                        exact ⟨by first | rfl | (simp [errW_none, errW_some] <;> rfl) | (simp [*, errW_none, errW_some] <;> rfl), by repeat (first | (with_reducible first | exact HB.out | apply below_alloc | apply pw_below_drewN | apply below_drew1) | exact HB.out)⟩
                      · rw [if_neg c31] at H
                        have c31b0 : (t138 == 1000000000) = false := beq_eq_false_iff_ne.mpr c31
                        have c31b1 : (t138 != 1000000000) = true := bne_iff_ne.mpr c31
                        obtain rfl := Option.some.inj H
                        go_wp2
                        go_ret
                        exact ⟨by first | rfl | (simp [errW_none, errW_some] <;> rfl) | (simp [*, errW_none, errW_some] <;> rfl), by repeat (first | (with_reducible first | exact HB.out | apply below_alloc | apply pw_below_drewN | apply below_drew1) | exact HB.out)⟩
                  · rw [if_neg c29] at H
                    have c29b0 : (t143 == 0) = false := beq_eq_false_iff_ne.mpr c29
                    have c29b1 : (t143 != 0) = true := bne_iff_ne.mpr c29
                    by_cases c32 : t138 = 1000000000
                    · rw [if_pos c32] at H
                      have c32b0 : (t138 == 1000000000) = true := beq_iff_eq.mpr c32
                      have c32b1 : (t138 != 1000000000) = false := bne_eq_false_iff_eq.mpr c32
                      clear c32
                      obtain rfl := Option.some.inj H
                      go_wp2
                      go_ret
                      exact ⟨by first | rfl | (simp [errW_none, errW_some] <;> rfl) | (simp [*, errW_none, errW_some] <;> rfl), by repeat (first | (with_reducible first | exact HB.out | apply below_alloc | apply pw_below_drewN | apply below_drew1) | exact HB.out)⟩
                    · rw [if_neg c32] at H
                      have c32b0 : (t138 == 1000000000) = false := beq_eq_false_iff_ne.mpr c32
                      have c32b1 : (t138 != 1000000000) = true := bne_iff_ne.mpr c32
                      obtain rfl := Option.some.inj H
                      go_wp2
                      go_ret
                      exact ⟨by first | rfl | (simp [errW_none, errW_some] <;> rfl) | (simp [*, errW_none, errW_some] <;> rfl), by repeat (first | (with_reducible first | exact HB.out | apply below_alloc | apply pw_below_drewN | apply below_drew1) | exact HB.out)⟩
                · rw [if_neg c28] at H
                  have c28b0 : (t144 == 0) = false := beq_eq_false_iff_ne.mpr c28
                  have c28b1 : (t144 != 0) = true := bne_iff_ne.mpr c28
                  obtain rfl := Option.some.inj H
                  go_wp2
                  go_ret
                  exact ⟨by first | rfl | (simp [errW_none, errW_some] <;> rfl) | (simp [*, errW_none, errW_some] <;> rfl), by repeat (first | (with_reducible first | exact HB.out | apply below_alloc | apply pw_below_drewN | apply below_drew1) | exact HB.out)⟩
              · replace c27 := Bool.eq_false_iff.mpr c27
                subst c27
                have H1 : ((laws_lhAbs.f (wrap64 ((wrap64 (t143 * 1000)) - (wrap64 (t138 * t144))))).bind fun t146 => ((laws_lhAbs.f t144).bind fun t147 => (some (decide (t146 < t147))))) = some r := by rw [if_neg (show ¬ (false = true) by decide)] at H; exact H
                clear H
                have H := H1
                clear H1
                replace H := Option.bind_eq_some_iff.mp H
                obtain ⟨t146, A330, H⟩ := H
                replace H : ((laws_lhAbs.f t144).bind fun t147 => (some (decide (t146 < t147)))) = some r := H
                have A33 := Aside0.mk A330
                clear A330
                replace H := Option.bind_eq_some_iff.mp H
                obtain ⟨t147, A340, H⟩ := H
                replace H : (some (decide (t146 < t147))) = some r := H
                have A34 := Aside0.mk A340
                clear A340
                obtain rfl := Option.some.inj H
                go_wp2_with (first | ((with_reducible refine gate_callee (f := 29) rfl ?_); refine goesL_ (some 70) rfl rfl Try.func29 (by kernel_rfl) rfl #[.int .i64 (wrap64 ((wrap64 (t143 * 1000)) - (wrap64 (t138 * t144))))] rfl (by (try simp only [List.map_toArray, List.map_cons, List.map_nil]); first | done | rfl | (simp only [List.length_drop, List.length_take]; rfl)) ?_; (with_reducible refine (laws_lhAbs.calls (wrap64 ((wrap64 (t143 * 1000)) - (wrap64 (t138 * t144)))) t146 _ A33.out).mono ?_); rintro e w' ⟨rfl, ⟨nd, rfl⟩⟩; refine ⟨_, rfl, ?_⟩; (try clear A33)) | ((with_reducible refine gate_callee (f := 29) rfl ?_); refine goesL_ (some 72) rfl rfl Try.func29 (by kernel_rfl) rfl #[.int .i64 t144] rfl (by (try simp only [List.map_toArray, List.map_cons, List.map_nil]); first | done | rfl | (simp only [List.length_drop, List.length_take]; rfl)) ?_; (with_reducible refine (laws_lhAbs.calls t144 t147 _ A34.out).mono ?_); rintro e w' ⟨rfl, ⟨nd, rfl⟩⟩; refine ⟨_, rfl, ?_⟩; (try clear A34)))
                go_ret
                exact ⟨by first | rfl | (simp [errW_none, errW_some] <;> rfl) | (simp [*, errW_none, errW_some] <;> rfl), by repeat (first | (with_reducible first | exact HB.out | apply below_alloc | apply pw_below_drewN | apply below_drew1) | exact HB.out)⟩

/-- THE ONE PURE STATEMENT of laws_FnFixDiv: yours. -/
def laws_FnFixDiv.Pure : Prop := ∀ (l0 : List Int), l0.length ≤ maxLen → l0.length * 1 ≤ 140737488351232 → (∀ x ∈ l0, (Lit.int .u8 x).wf = true) → ∃ k, laws_FnFixDiv.f k l0 = some true
theorem laws_FnFixDiv.walk (P : laws_FnFixDiv.Pure) (a0 : Option Addr) (len0 cap0 : Nat) (z0 : List Int) (w : World) (w0 : (a0 = none ∧ len0 = 0 ∧ cap0 = 0 ∧ z0 = []) ∨ ∃ x, a0 = some x ∧ len0 ≤ cap0 ∧ cap0 ≤ maxLen ∧ z0.length = cap0 ∧ (∀ i, i < z0.length → w.cell? (x.add i) = some (.int .u8 (z0.getD i 0))) ∧ ∀ n ∈ z0, (Lit.int .u8 n).wf = true) (y0 : len0 * 1 ≤ 140737488351232) :
    Calls Try.prog 7 #[.slice a0 len0 cap0] w fun e w' => e = .returned (.bool true) ∧ Below w.heap.size w w' := by
  obtain ⟨l0, rfl, hr0, hm0, hw0, hc0⟩ := ReadsInt.ofRowC w0
  obtain ⟨k, h⟩ := P l0 hm0 y0 hw0
  refine (laws_FnFixDiv.calls k _ _ l0 true w (Kd.C_of_reads (d := (0 : Int)) (h1 := fun _ => rfl) hr0) hc0 h).mono ?_
  rintro e w' ⟨rfl, hd⟩
  exact ⟨rfl, hd⟩

end Go.Proofs.Ytacbmhkdeceomaa.PFnFixDiv
