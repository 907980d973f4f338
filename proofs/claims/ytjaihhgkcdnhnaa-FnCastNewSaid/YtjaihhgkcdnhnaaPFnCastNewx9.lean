/- Functions of the program as plain functions, and that each call does what they tell. Conditions: none. -/
import Derived.Test.YtjaihhgkcdnhnaaPFnCastNewx0
import Derived.Test.YtjaihhgkcdnhnaaPFnCastNewx8
namespace Go.Proofs.Ytjaihhgkcdnhnaa.PFnCastNew
open Go.RowKit Go.Proofs.YtjaihhgkcdnhnaaW.PrintWords Go.Proofs.YtjaihhgkcdnhnaaW.PrintLast Go.Proofs.YtjaihhgkcdnhnaaW.PrintMore
set_option linter.unusedVariables false
set_option linter.unusedSimpArgs false

/-! ### cmp_Compare_int: function 70 -/
def cmp_Compare_int.f (a0 : Int) (a1 : Int) : Option (Int) := (cmp_isNaN_int.f a0).bind fun t182 => ((cmp_isNaN_int.f a1).bind fun t183 => (if t182 = true then (if t183 = true then (some 0) else (some (-1))) else (if t183 = true then (some 1) else (if a0 < a1 then (some (-1)) else (if a0 > a1 then (some 1) else (some 0))))))
set_option maxHeartbeats 8000000 in
set_option maxRecDepth 100000 in
theorem cmp_Compare_int.calls (a0 : Int) (a1 : Int) (r : Int) (w : World) (h : cmp_Compare_int.f a0 a1 = some r) :
  Calls Try.prog 70 #[.int .i64 a0, .int .i64 a1] w fun e w' => e = .returned (.int .i64 r) ∧ Drawn0 w w' := by
 have H : ((cmp_isNaN_int.f a0).bind fun t182 => ((cmp_isNaN_int.f a1).bind fun t183 => (if t182 = true then (if t183 = true then (some 0) else (some (-1))) else (if t183 = true then (some 1) else (if a0 < a1 then (some (-1)) else (if a0 > a1 then (some 1) else (some 0))))))) = some r := h; clear h; replace H := Option.bind_eq_some_iff.mp H; obtain ⟨t182, A30, H⟩ := H; replace H : ((cmp_isNaN_int.f a1).bind fun t183 => (if t182 = true then (if t183 = true then (some 0) else (some (-1))) else (if t183 = true then (some 1) else (if a0 < a1 then (some (-1)) else (if a0 > a1 then (some 1) else (some 0)))))) = some r := H; have A3 := Zz.mk A30; clear A30; replace H := Option.bind_eq_some_iff.mp H; obtain ⟨t183, A40, H⟩ := H; replace H : (if t182 = true then (if t183 = true then (some 0) else (some (-1))) else (if t183 = true then (some 1) else (if a0 < a1 then (some (-1)) else (if a0 > a1 then (some 1) else (some 0))))) = some r := H; have A4 := Zz.mk A40; clear A40; by_cases c5 : t182 = true
 ·subst c5
  have H1 : (if t183 = true then (some 0) else (some (-1))) = some r := by rw [if_pos rfl] at H; exact H
  clear H; have H := H1; clear H1; by_cases c6 : t183 = true
  ·subst c6
   have H1 : (some 0) = some r := by rw [if_pos rfl] at H; exact H
   clear H; have H := H1; clear H1; obtain rfl := Option.some.inj H; go_enter Try.func70, Try.ntmps70; go_wp2_with (first | ((with_reducible refine gate_callee (f := 78) rfl ?_); refine goesL_ (some 8) rfl rfl Try.func78 (by kernel_rfl) rfl #[.int .i64 a0] rfl (by (try simp only [List.map_toArray, List.map_cons, List.map_nil]); first | done | rfl | (simp only [List.length_drop, List.length_take]; rfl)) ?_; (with_reducible refine (cmp_isNaN_int.calls a0 true _ A3.out).mono ?_); rintro e w' ⟨rfl, ⟨nd, rfl⟩⟩; refine ⟨_, rfl, ?_⟩; (try clear A3)) | ((with_reducible refine gate_callee (f := 78) rfl ?_); refine goesL_ (some 10) rfl rfl Try.func78 (by kernel_rfl) rfl #[.int .i64 a1] rfl (by (try simp only [List.map_toArray, List.map_cons, List.map_nil]); first | done | rfl | (simp only [List.length_drop, List.length_take]; rfl)) ?_; (with_reducible refine (cmp_isNaN_int.calls a1 true _ A4.out).mono ?_); rintro e w' ⟨rfl, ⟨nd, rfl⟩⟩; refine ⟨_, rfl, ?_⟩; (try clear A4)))
   go_ret
   exact ⟨by first | rfl | (simp; done) | (simp [*]; done), by repeat (first | exact Drawn0.refl _ | apply Drawn0.step)⟩
  ·replace c6 := Bool.eq_false_iff.mpr c6
   subst c6; have H1 : (some (-1)) = some r := by rw [if_neg (show ¬ (false = true) by decide)] at H; exact H
   clear H; have H := H1; clear H1; obtain rfl := Option.some.inj H; go_enter Try.func70, Try.ntmps70; go_wp2_with (first | ((with_reducible refine gate_callee (f := 78) rfl ?_); refine goesL_ (some 8) rfl rfl Try.func78 (by kernel_rfl) rfl #[.int .i64 a0] rfl (by (try simp only [List.map_toArray, List.map_cons, List.map_nil]); first | done | rfl | (simp only [List.length_drop, List.length_take]; rfl)) ?_; (with_reducible refine (cmp_isNaN_int.calls a0 true _ A3.out).mono ?_); rintro e w' ⟨rfl, ⟨nd, rfl⟩⟩; refine ⟨_, rfl, ?_⟩; (try clear A3)) | ((with_reducible refine gate_callee (f := 78) rfl ?_); refine goesL_ (some 10) rfl rfl Try.func78 (by kernel_rfl) rfl #[.int .i64 a1] rfl (by (try simp only [List.map_toArray, List.map_cons, List.map_nil]); first | done | rfl | (simp only [List.length_drop, List.length_take]; rfl)) ?_; (with_reducible refine (cmp_isNaN_int.calls a1 false _ A4.out).mono ?_); rintro e w' ⟨rfl, ⟨nd, rfl⟩⟩; refine ⟨_, rfl, ?_⟩; (try clear A4)))
   go_ret
   exact ⟨by first | rfl | (simp; done) | (simp [*]; done), by repeat (first | exact Drawn0.refl _ | apply Drawn0.step)⟩
 ·replace c5 := Bool.eq_false_iff.mpr c5
  subst c5; have H1 : (if t183 = true then (some 1) else (if a0 < a1 then (some (-1)) else (if a0 > a1 then (some 1) else (some 0)))) = some r := by rw [if_neg (show ¬ (false = true) by decide)] at H; exact H
  clear H; have H := H1; clear H1; by_cases c7 : t183 = true
  ·subst c7
   have H1 : (some 1) = some r := by rw [if_pos rfl] at H; exact H
   clear H; have H := H1; clear H1; obtain rfl := Option.some.inj H; go_enter Try.func70, Try.ntmps70; go_wp2_with (first | ((with_reducible refine gate_callee (f := 78) rfl ?_); refine goesL_ (some 8) rfl rfl Try.func78 (by kernel_rfl) rfl #[.int .i64 a0] rfl (by (try simp only [List.map_toArray, List.map_cons, List.map_nil]); first | done | rfl | (simp only [List.length_drop, List.length_take]; rfl)) ?_; (with_reducible refine (cmp_isNaN_int.calls a0 false _ A3.out).mono ?_); rintro e w' ⟨rfl, ⟨nd, rfl⟩⟩; refine ⟨_, rfl, ?_⟩; (try clear A3)) | ((with_reducible refine gate_callee (f := 78) rfl ?_); refine goesL_ (some 10) rfl rfl Try.func78 (by kernel_rfl) rfl #[.int .i64 a1] rfl (by (try simp only [List.map_toArray, List.map_cons, List.map_nil]); first | done | rfl | (simp only [List.length_drop, List.length_take]; rfl)) ?_; (with_reducible refine (cmp_isNaN_int.calls a1 true _ A4.out).mono ?_); rintro e w' ⟨rfl, ⟨nd, rfl⟩⟩; refine ⟨_, rfl, ?_⟩; (try clear A4)))
   go_ret
   exact ⟨by first | rfl | (simp; done) | (simp [*]; done), by repeat (first | exact Drawn0.refl _ | apply Drawn0.step)⟩
  ·replace c7 := Bool.eq_false_iff.mpr c7
   subst c7; have H1 : (if a0 < a1 then (some (-1)) else (if a0 > a1 then (some 1) else (some 0))) = some r := by rw [if_neg (show ¬ (false = true) by decide)] at H; exact H
   clear H; have H := H1; clear H1; by_cases c8 : a0 < a1
   ·rw [if_pos c8] at H
    have c8b0 : decide (a0 < a1) = true := decide_eq_true c8; clear c8; obtain rfl := Option.some.inj H; go_enter Try.func70, Try.ntmps70; go_wp2_with (first | ((with_reducible refine gate_callee (f := 78) rfl ?_); refine goesL_ (some 8) rfl rfl Try.func78 (by kernel_rfl) rfl #[.int .i64 a0] rfl (by (try simp only [List.map_toArray, List.map_cons, List.map_nil]); first | done | rfl | (simp only [List.length_drop, List.length_take]; rfl)) ?_; (with_reducible refine (cmp_isNaN_int.calls a0 false _ A3.out).mono ?_); rintro e w' ⟨rfl, ⟨nd, rfl⟩⟩; refine ⟨_, rfl, ?_⟩; (try clear A3)) | ((with_reducible refine gate_callee (f := 78) rfl ?_); refine goesL_ (some 10) rfl rfl Try.func78 (by kernel_rfl) rfl #[.int .i64 a1] rfl (by (try simp only [List.map_toArray, List.map_cons, List.map_nil]); first | done | rfl | (simp only [List.length_drop, List.length_take]; rfl)) ?_; (with_reducible refine (cmp_isNaN_int.calls a1 false _ A4.out).mono ?_); rintro e w' ⟨rfl, ⟨nd, rfl⟩⟩; refine ⟨_, rfl, ?_⟩; (try clear A4)))
    go_ret
    exact ⟨by first | rfl | (simp; done) | (simp [*]; done), by repeat (first | exact Drawn0.refl _ | apply Drawn0.step)⟩
   ·rw [if_neg c8] at H
    have c8b0 : decide (a0 < a1) = false := decide_eq_false c8; clear c8; by_cases c9 : a0 > a1
    ·rw [if_pos c9] at H
     have c9b0 : decide (a1 < a0) = true := decide_eq_true c9; clear c9; obtain rfl := Option.some.inj H; go_enter Try.func70, Try.ntmps70; go_wp2_with (first | ((with_reducible refine gate_callee (f := 78) rfl ?_); refine goesL_ (some 8) rfl rfl Try.func78 (by kernel_rfl) rfl #[.int .i64 a0] rfl (by (try simp only [List.map_toArray, List.map_cons, List.map_nil]); first | done | rfl | (simp only [List.length_drop, List.length_take]; rfl)) ?_; (with_reducible refine (cmp_isNaN_int.calls a0 false _ A3.out).mono ?_); rintro e w' ⟨rfl, ⟨nd, rfl⟩⟩; refine ⟨_, rfl, ?_⟩; (try clear A3)) | ((with_reducible refine gate_callee (f := 78) rfl ?_); refine goesL_ (some 10) rfl rfl Try.func78 (by kernel_rfl) rfl #[.int .i64 a1] rfl (by (try simp only [List.map_toArray, List.map_cons, List.map_nil]); first | done | rfl | (simp only [List.length_drop, List.length_take]; rfl)) ?_; (with_reducible refine (cmp_isNaN_int.calls a1 false _ A4.out).mono ?_); rintro e w' ⟨rfl, ⟨nd, rfl⟩⟩; refine ⟨_, rfl, ?_⟩; (try clear A4)))
     go_ret
     exact ⟨by first | rfl | (simp; done) | (simp [*]; done), by repeat (first | exact Drawn0.refl _ | apply Drawn0.step)⟩
    ·rw [if_neg c9] at H
     have c9b0 : decide (a1 < a0) = false := decide_eq_false c9; clear c9; obtain rfl := Option.some.inj H; go_enter Try.func70, Try.ntmps70; go_wp2_with (first | ((with_reducible refine gate_callee (f := 78) rfl ?_); refine goesL_ (some 8) rfl rfl Try.func78 (by kernel_rfl) rfl #[.int .i64 a0] rfl (by (try simp only [List.map_toArray, List.map_cons, List.map_nil]); first | done | rfl | (simp only [List.length_drop, List.length_take]; rfl)) ?_; (with_reducible refine (cmp_isNaN_int.calls a0 false _ A3.out).mono ?_); rintro e w' ⟨rfl, ⟨nd, rfl⟩⟩; refine ⟨_, rfl, ?_⟩; (try clear A3)) | ((with_reducible refine gate_callee (f := 78) rfl ?_); refine goesL_ (some 10) rfl rfl Try.func78 (by kernel_rfl) rfl #[.int .i64 a1] rfl (by (try simp only [List.map_toArray, List.map_cons, List.map_nil]); first | done | rfl | (simp only [List.length_drop, List.length_take]; rfl)) ?_; (with_reducible refine (cmp_isNaN_int.calls a1 false _ A4.out).mono ?_); rintro e w' ⟨rfl, ⟨nd, rfl⟩⟩; refine ⟨_, rfl, ?_⟩; (try clear A4)))
     go_ret
     exact ⟨by first | rfl | (simp; done) | (simp [*]; done), by repeat (first | exact Drawn0.refl _ | apply Drawn0.step)⟩

/-! ### impl_find_1: function 69 -/
def impl_find_1.f (a0_0 : Int) (a0_1 : Int) (a0_2 : Int) (a0_3 : Bool) (a1 : Int) : Option (Int) := (cmp_Compare_int.f a0_0 a1).bind fun t185 => (some t185)
set_option maxHeartbeats 8000000 in
set_option maxRecDepth 100000 in
theorem impl_find_1.calls (a0_0 : Int) (a0_1 : Int) (a0_2 : Int) (a0_3 : Bool) (a1 : Int) (r : Int) (w : World) (h : impl_find_1.f a0_0 a0_1 a0_2 a0_3 a1 = some r) :
  Calls Try.prog 69 #[.agg #[.int .i64 a0_0, .int .i64 a0_1, .int .i64 a0_2, .bool a0_3], .int .i64 a1] w fun e w' => e = .returned (.int .i64 r) ∧ Below w.heap.size w w' := by
 have hu30 := Try.underlying30; have HB := Zz.mk (Below.refl w.heap.size w); have H : ((cmp_Compare_int.f a0_0 a1).bind fun t185 => (some t185)) = some r := h; clear h; replace H := Option.bind_eq_some_iff.mp H; obtain ⟨t185, A30, H⟩ := H; replace H : (some t185) = some r := H; have A3 := Zz.mk A30; clear A30; obtain rfl := Option.some.inj H; go_enter Try.func69, Try.ntmps69; go_wp2_with (first | ((with_reducible refine gate_dst (N := 2) rfl ?_); refine box_event ?hg (N := 2) ?hd (cs := #[.int .i64 a0_0, .int .i64 a0_1, .int .i64 a0_2, .bool a0_3]) (t := 30) ?hr ?_; (case hd => rfl); (case hg => rfl); (case hr => first | (go_simp; done) | (go_simp; rfl)); intro gb184 hg w4 hbox hb; have n0_ := Zz.mk (bwP (by repeat (first | (with_reducible first | exact HB.out | apply bwA | apply pwN | apply bw1) | exact HB.out)) hb); have n1_ := Zz.mk (hbox); have n2_ := Zz.mk ((by rw [hg]; exact (bwZ (by repeat (first | (with_reducible first | exact HB.out | apply bwA | apply pwN | apply bw1) | exact HB.out))) : w.heap.size ≤ gb184)); have n3_ := Zz.mk ((by rw [hg]; exact (bwZ (by repeat (first | (with_reducible first | exact HB.out | apply bwA | apply pwN | apply bw1) | exact HB.out))) : w.heap.size ≤ gb184)); clear HB; have HB := n0_; have BK184 := n1_; have GW184 := n2_; have GE184 := n3_; clear n0_ n1_ n2_ n3_; clear hb hbox hg; have hcz5_0 : w4.cell? ⟨gb184, 0, none⟩ = some (.int .i64 a0_0) := (bkC BK184.out 0).trans rfl; have hcz5_1 : w4.cell? ⟨gb184, 1, none⟩ = some (.int .i64 a0_1) := (bkC BK184.out 1).trans rfl; have hcz5_2 : w4.cell? ⟨gb184, 2, none⟩ = some (.int .i64 a0_2) := (bkC BK184.out 2).trans rfl; have hcz5_3 : w4.cell? ⟨gb184, 3, none⟩ = some (.bool a0_3) := (bkC BK184.out 3).trans rfl; have hfz5_0 := bkF BK184.out 0; have hfz5_1 := bkF BK184.out 1; have hfz5_2 := bkF BK184.out 2; have hfz5_3 := bkF BK184.out 3) | ((with_reducible refine gate_callee (f := 70) rfl ?_); refine goesL_ (some 8) rfl rfl Try.func70 (by kernel_rfl) rfl #[.int .i64 a0_0, .int .i64 a1] rfl (by (try simp only [List.map_toArray, List.map_cons, List.map_nil]); first | done | rfl | (simp only [List.length_drop, List.length_take]; rfl)) ?_; (with_reducible refine (cmp_Compare_int.calls a0_0 a1 t185 _ A3.out).mono ?_); rintro e w' ⟨rfl, ⟨nd, rfl⟩⟩; refine ⟨_, rfl, ?_⟩; (try clear A3)))
 go_ret
 exact ⟨by first | rfl | (simp [eN, eS] <;> rfl) | (simp [*, eN, eS] <;> rfl), by repeat (first | (with_reducible first | exact HB.out | apply bwA | apply pwN | apply bw1 | refine bwS ?_ GE184.out) | exact HB.out)⟩

/-! ### impl_Fact_int: function 68 -/
def impl_Fact_int.l0 : Nat → List (S30) → Int → Int → Int → Int → Option (Int × Bool)
 | 0, _, _, _, _, _ => none
 | k + 1, x0, x1, x8, x9, x10 => if x9 < x10 then (if 0 ≤ (wrap64 ((IntKind.u64.wrap (wrap64 (x9 + x10))) / 2)) then (if (wrap64 ((IntKind.u64.wrap (wrap64 (x9 + x10))) / 2)) < (x0.length : Int) then ((impl_find_1.f ((rd_T30 x0 (wrap64 ((IntKind.u64.wrap (wrap64 (x9 + x10))) / 2))).f0) ((rd_T30 x0 (wrap64 ((IntKind.u64.wrap (wrap64 (x9 + x10))) / 2))).f1) ((rd_T30 x0 (wrap64 ((IntKind.u64.wrap (wrap64 (x9 + x10))) / 2))).f2) ((rd_T30 x0 (wrap64 ((IntKind.u64.wrap (wrap64 (x9 + x10))) / 2))).f3) x1).bind fun t187 => (if t187 < 0 then (impl_Fact_int.l0 k x0 x1 x8 (wrap64 ((wrap64 ((IntKind.u64.wrap (wrap64 (x9 + x10))) / 2)) + 1)) x10) else (impl_Fact_int.l0 k x0 x1 x8 x9 (wrap64 ((IntKind.u64.wrap (wrap64 (x9 + x10))) / 2))))) else (none)) else (none)) else (if x9 < x8 then (if 0 ≤ x9 then (if x9 < (x0.length : Int) then ((impl_find_1.f ((rd_T30 x0 x9).f0) ((rd_T30 x0 x9).f1) ((rd_T30 x0 x9).f2) ((rd_T30 x0 x9).f3) x1).bind fun t189 => (some (x9, (t189 == 0)))) else (none)) else (none)) else (some (x9, false)))
def impl_Fact_int.f (k : Nat) (l0 : List (S30)) (a1 : Int) (a2 : Unit) : Option (Int × Bool) := impl_Fact_int.l0 k l0 a1 (l0.length : Int) 0 (l0.length : Int)
theorem impl_Fact_int.mono_l : ∀ k, (∀ y0 y1 y2 y3 y4, LeO (impl_Fact_int.l0 k y0 y1 y2 y3 y4) (impl_Fact_int.l0 (k + 1) y0 y1 y2 y3 y4))
 | 0 => fun _ _ _ _ _ r h => by simp [impl_Fact_int.l0] at h
 | k + 1 => by
  have ih0 := impl_Fact_int.mono_l k
  ·intro y0 y1 y2 y3 y4
   unfold impl_Fact_int.l0; repeat' first
   | (with_reducible exact ih0 _ _ _ _ _)
   | (with_reducible exact LeO.refl _)
   | (with_reducible exact LeO.none _)
   | (with_reducible refine LeO.ite ?_ ?_)
   | (with_reducible refine LeO.bind ?_ (fun _ => ?_))
   | exact ih0 _ _ _ _ _
   | exact LeO.none _
   | refine LeO.ite ?_ ?_
   | refine LeO.bind ?_ (fun _ => ?_)
theorem impl_Fact_int.mono : ∀ a0 a1 a2 k, LeO (impl_Fact_int.f k a0 a1 a2) (impl_Fact_int.f (k + 1) a0 a1 a2) := by
 intro a0 a1 a2 k; have ih0 := impl_Fact_int.mono_l k; unfold impl_Fact_int.f
 repeat' first
   | (with_reducible exact ih0 _ _ _ _ _)
   | (with_reducible exact LeO.refl _)
   | (with_reducible exact LeO.none _)
   | (with_reducible refine LeO.ite ?_ ?_)
   | (with_reducible refine LeO.bind ?_ (fun _ => ?_))
   | exact ih0 _ _ _ _ _
   | exact LeO.none _
   | refine LeO.ite ?_ ?_
   | refine LeO.bind ?_ (fun _ => ?_)
set_option maxHeartbeats 8000000 in
set_option maxRecDepth 100000 in
theorem impl_Fact_int.calls (k : Nat) (A0 : Option Addr) (c0 : Nat) (l0 : List (S30)) (a1 : Int) (a2 : Unit) (r1 : Int) (r2 : Bool) (w : World) (hr0 : Kd.C k30 w A0 l0.length l0) (hc0 : l0.length ≤ c0) (h : impl_Fact_int.f k l0 a1 a2 = some (r1, r2)) :
  Calls Try.prog 68 #[.slice A0 l0.length c0, .int .i64 a1, .func (.func 69) #[] #[]] w fun e w' => e = .returned (.tuple #[.int .i64 r1, .bool r2]) ∧ Below w.heap.size w w' := by
 have hu30 := Try.underlying30; have HR0 := Zz.mk hr0; have HC0 := Zz.mk hc0; clear hr0 hc0; have HB := Zz.mk (Below.refl w.heap.size w); have H : (impl_Fact_int.l0 k l0 a1 (l0.length : Int) 0 (l0.length : Int)) = some (r1, r2) := h; clear h; have H' := Zz.mk H; clear H; go_enter Try.func68, Try.ntmps68; go_wp2
 go_loopg [9, 10] k (fun kq v9 v10 w' => ∃ (x9_1 : Int) (x10_1 : Int), v9 = .int .i64 x9_1 ∧ v10 = .int .i64 x10_1 ∧ Zz (impl_Fact_int.l0 kq l0 a1 (l0.length : Int) x9_1 x10_1 = some (r1, r2)) ∧ Zz (kq ≤ k) ∧ Zz (Below w.heap.size w w'))
 case atStart => exact ⟨(0), ((l0.length : Int)), (by first | rfl | (simp; done) | (simp [*]; done)), (by first | rfl | (simp; done) | (simp [*]; done)), H', ⟨Nat.le_refl _⟩, ⟨by repeat (first | (with_reducible first | exact HB.out | apply bwA | apply pwN | apply bw1) | exact HB.out)⟩⟩
 case round =>
  clear H'; try clear p2
  obtain ⟨x9_1, x10_1, rfl, rfl, HA, HK1, HB⟩ := hrel; cases gk with
  | zero => exact absurd HA.out (by simp [impl_Fact_int.l0])
  | succ k1 =>
   have H := HA.out; clear HA; simp only [impl_Fact_int.l0] at H; by_cases c4 : x9_1 < x10_1
   ·rw [if_pos c4] at H
    have c4b0 : decide (x9_1 < x10_1) = true := decide_eq_true c4; clear c4; obtain ⟨ji5, hji5⟩ : ∃ j_ : Int, (wrap64 ((IntKind.u64.wrap (wrap64 (x9_1 + x10_1))) / 2)) = j_ := ⟨_, rfl⟩
    replace H : (if 0 ≤ (ji5) then (if (ji5) < (l0.length : Int) then ((impl_find_1.f ((rd_T30 l0 (ji5)).f0) ((rd_T30 l0 (ji5)).f1) ((rd_T30 l0 (ji5)).f2) ((rd_T30 l0 (ji5)).f3) a1).bind fun t187 => (if t187 < 0 then (impl_Fact_int.l0 k1 l0 a1 (l0.length : Int) (wrap64 ((ji5) + 1)) x10_1) else (impl_Fact_int.l0 k1 l0 a1 (l0.length : Int) x9_1 ji5))) else (none)) else (none)) = some (r1, r2) := by first | (rw [hji5] at H; exact H) | (simp only [hji5] at H ⊢; exact H)
    have hji5w : (IntKind.i64.wrap ((IntKind.u64.wrap (wrap64 (x9_1 + x10_1))) / 2)) = ji5 := (i64_w _).trans hji5; by_cases c6 : 0 ≤ (ji5)
    ·rw [if_pos c6] at H
     have c6b0 : decide (0 ≤ (ji5)) = true := decide_eq_true c6; clear c6; by_cases c7 : (ji5) < (l0.length : Int)
     ·rw [if_pos c7] at H
      have c7b0 : decide ((ji5) < (l0.length : Int)) = true := decide_eq_true c7; clear c7; replace H := Option.bind_eq_some_iff.mp H; obtain ⟨t187, A80, H⟩ := H; replace H : (if t187 < 0 then (impl_Fact_int.l0 k1 l0 a1 (l0.length : Int) (wrap64 ((ji5) + 1)) x10_1) else (impl_Fact_int.l0 k1 l0 a1 (l0.length : Int) x9_1 ji5)) = some (r1, r2) := H; have A8 := Zz.mk A80; clear A80; by_cases c9 : t187 < 0
      ·rw [if_pos c9] at H
       have c9b0 : decide (t187 < 0) = true := decide_eq_true c9; clear c9; have H' := Zz.mk H; clear H; have p186 : 0 ≤ ((ji5) : Int) := of_decide_eq_true (by first | (with_reducible assumption) | assumption); have q186 : (ji5) < (l0.length : Int) := of_decide_eq_true (by first | (with_reducible assumption) | assumption); obtain ⟨ad186, e186, hx186_0, hx186_1, hx186_2, hx186_3⟩ := at_T30 HR0.out (ji5) p186 q186; cases e186
       replace hx186_0 := (bc HB.out hx186_0 :)
       replace hx186_1 := (bc HB.out hx186_1 :)
       replace hx186_2 := (bc HB.out hx186_2 :)
       replace hx186_3 := (bc HB.out hx186_3 :)
       replace p186 := eq_true p186; replace q186 := eq_true q186; go_wp2_with (first | ((with_reducible show Calls Try.prog 69 _ _ _); (with_reducible refine (impl_find_1.calls ((rd_T30 l0 (ji5)).f0) ((rd_T30 l0 (ji5)).f1) ((rd_T30 l0 (ji5)).f2) ((rd_T30 l0 (ji5)).f3) a1 t187 _ A8.out).mono ?_); rintro e w10 ⟨rfl, hb⟩; have n0_ := Zz.mk (bwP (by repeat (first | (with_reducible first | exact HB.out | apply bwA | apply pwN | apply bw1) | exact HB.out)) hb); clear HB; have HB := n0_; clear n0_; (try clear hb); (try clear A8)))
       go_roundg k1
       case measure => have := HK1.out; omega
       case rel => exact ⟨(wrap64 ((ji5) + 1)), (x10_1), (by first | rfl | (simp; done) | (simp only [← hji5] <;> (first | rfl | simp)) | (simp [*]; done)), (by first | rfl | (simp; done) | (simp [*]; done)), H', ⟨by have := HK1.out; omega⟩, ⟨by repeat (first | (with_reducible first | exact HB.out | apply bwA | apply pwN | apply bw1) | exact HB.out)⟩⟩
      ·rw [if_neg c9] at H
       have c9b0 : decide (t187 < 0) = false := decide_eq_false c9; clear c9; have H' := Zz.mk H; clear H; have p186 : 0 ≤ ((ji5) : Int) := of_decide_eq_true (by first | (with_reducible assumption) | assumption); have q186 : (ji5) < (l0.length : Int) := of_decide_eq_true (by first | (with_reducible assumption) | assumption); obtain ⟨ad186, e186, hx186_0, hx186_1, hx186_2, hx186_3⟩ := at_T30 HR0.out (ji5) p186 q186; cases e186
       replace hx186_0 := (bc HB.out hx186_0 :)
       replace hx186_1 := (bc HB.out hx186_1 :)
       replace hx186_2 := (bc HB.out hx186_2 :)
       replace hx186_3 := (bc HB.out hx186_3 :)
       replace p186 := eq_true p186; replace q186 := eq_true q186; go_wp2_with (first | ((with_reducible show Calls Try.prog 69 _ _ _); (with_reducible refine (impl_find_1.calls ((rd_T30 l0 (ji5)).f0) ((rd_T30 l0 (ji5)).f1) ((rd_T30 l0 (ji5)).f2) ((rd_T30 l0 (ji5)).f3) a1 t187 _ A8.out).mono ?_); rintro e w11 ⟨rfl, hb⟩; have n0_ := Zz.mk (bwP (by repeat (first | (with_reducible first | exact HB.out | apply bwA | apply pwN | apply bw1) | exact HB.out)) hb); clear HB; have HB := n0_; clear n0_; (try clear hb); (try clear A8)))
       go_roundg k1
       case measure => have := HK1.out; omega
       case rel => exact ⟨(x9_1), (ji5), (by first | rfl | (simp; done) | (simp [*]; done)), (by first | rfl | (simp; done) | (simp only [← hji5] <;> (first | rfl | simp)) | (simp [*]; done)), H', ⟨by have := HK1.out; omega⟩, ⟨by repeat (first | (with_reducible first | exact HB.out | apply bwA | apply pwN | apply bw1) | exact HB.out)⟩⟩
     ·rw [if_neg c7] at H; exact absurd H (by simp)
    ·rw [if_neg c6] at H; exact absurd H (by simp)
   ·rw [if_neg c4] at H
    have c4b0 : decide (x9_1 < x10_1) = false := decide_eq_false c4; clear c4; by_cases c12 : x9_1 < (l0.length : Int)
    ·rw [if_pos c12] at H
     have c12b0 : decide (x9_1 < (l0.length : Int)) = true := decide_eq_true c12; clear c12; by_cases c13 : 0 ≤ x9_1
     ·rw [if_pos c13] at H
      have c13b0 : decide (0 ≤ x9_1) = true := decide_eq_true c13; clear c13; by_cases c14 : x9_1 < (l0.length : Int)
      ·rw [if_pos c14] at H
       have c14b0 : decide (x9_1 < (l0.length : Int)) = true := decide_eq_true c14; clear c14; replace H := Option.bind_eq_some_iff.mp H; obtain ⟨t189, A150, H⟩ := H; replace H : (some (x9_1, (t189 == 0))) = some (r1, r2) := H; have A15 := Zz.mk A150; clear A150; simp only [Option.some.injEq, Prod.mk.injEq] at H; obtain ⟨rfl, rfl⟩ := H; have p188 : 0 ≤ (x9_1 : Int) := of_decide_eq_true (by first | (with_reducible assumption) | assumption); have q188 : x9_1 < (l0.length : Int) := of_decide_eq_true (by first | (with_reducible assumption) | assumption); obtain ⟨ad188, e188, hx188_0, hx188_1, hx188_2, hx188_3⟩ := at_T30 HR0.out x9_1 p188 q188; cases e188
       replace hx188_0 := (bc HB.out hx188_0 :)
       replace hx188_1 := (bc HB.out hx188_1 :)
       replace hx188_2 := (bc HB.out hx188_2 :)
       replace hx188_3 := (bc HB.out hx188_3 :)
       replace p188 := eq_true p188; replace q188 := eq_true q188; go_wp2_with (first | ((with_reducible show Calls Try.prog 69 _ _ _); (with_reducible refine (impl_find_1.calls ((rd_T30 l0 x9_1).f0) ((rd_T30 l0 x9_1).f1) ((rd_T30 l0 x9_1).f2) ((rd_T30 l0 x9_1).f3) a1 t189 _ A15.out).mono ?_); rintro e w16 ⟨rfl, hb⟩; have n0_ := Zz.mk (bwP (by repeat (first | (with_reducible first | exact HB.out | apply bwA | apply pwN | apply bw1) | exact HB.out)) hb); clear HB; have HB := n0_; clear n0_; (try clear hb); (try clear A15)))
       go_ret2
       exact ⟨by first | rfl | (simp [eN, eS] <;> rfl) | (simp [*, eN, eS] <;> rfl), by repeat (first | (with_reducible first | exact HB.out | apply bwA | apply pwN | apply bw1) | exact HB.out)⟩
      ·rw [if_neg c14] at H; exact absurd H (by simp)
     ·rw [if_neg c13] at H; exact absurd H (by simp)
    ·rw [if_neg c12] at H
     have c12b0 : decide (x9_1 < (l0.length : Int)) = false := decide_eq_false c12; clear c12; simp only [Option.some.injEq, Prod.mk.injEq] at H; obtain ⟨rfl, rfl⟩ := H; go_wp2
     go_ret2
     exact ⟨by first | rfl | (simp [eN, eS] <;> rfl) | (simp [*, eN, eS] <;> rfl), by repeat (first | (with_reducible first | exact HB.out | apply bwA | apply pwN | apply bw1) | exact HB.out)⟩

/-! ### impl_find: function 56 -/
def impl_find.f (k : Nat) (l0 : List (S30)) (a1 : Int) : Option (Int × Bool) := (impl_Fact_int.f k l0 a1 ()).bind fun bt190 => (some (bt190.1, bt190.2))
theorem impl_find.mono : ∀ a0 a1 k, LeO (impl_find.f k a0 a1) (impl_find.f (k + 1) a0 a1) := by
 intro a0 a1 k; unfold impl_find.f
 repeat' first
   | (with_reducible exact impl_Fact_int.mono _ _ _ _)
   | (with_reducible exact LeO.refl _)
   | (with_reducible exact LeO.none _)
   | (with_reducible refine LeO.ite ?_ ?_)
   | (with_reducible refine LeO.bind ?_ (fun _ => ?_))
   | exact impl_Fact_int.mono _ _ _ _
   | exact LeO.none _
   | refine LeO.ite ?_ ?_
   | refine LeO.bind ?_ (fun _ => ?_)
set_option maxHeartbeats 8000000 in
set_option maxRecDepth 100000 in
theorem impl_find.calls (k : Nat) (A0 : Option Addr) (c0 : Nat) (l0 : List (S30)) (a1 : Int) (r1 : Int) (r2 : Bool) (w : World) (hr0 : Kd.C k30 w A0 l0.length l0) (hc0 : l0.length ≤ c0) (h : impl_find.f k l0 a1 = some (r1, r2)) :
  Calls Try.prog 56 #[.slice A0 l0.length c0, .int .i64 a1] w fun e w' => e = .returned (.tuple #[.int .i64 r1, .bool r2]) ∧ Below w.heap.size w w' := by
 have HR0 := Zz.mk hr0; have HC0 := Zz.mk hc0; clear hr0 hc0; have HB := Zz.mk (Below.refl w.heap.size w); have H : ((impl_Fact_int.f k l0 a1 ()).bind fun bt190 => (some (bt190.1, bt190.2))) = some (r1, r2) := h; clear h; replace H := Option.bind_eq_some_iff.mp H; obtain ⟨⟨t190, t191⟩, A30, H⟩ := H; replace H : (some (t190, t191)) = some (r1, r2) := H; have A3 := Zz.mk A30; clear A30; simp only [Option.some.injEq, Prod.mk.injEq] at H; obtain ⟨rfl, rfl⟩ := H; go_enter Try.func56, Try.ntmps56; go_wp2_with (first | ((with_reducible refine gate_callee (f := 68) rfl ?_); refine goesL_ (some 8) rfl rfl Try.func68 (by kernel_rfl) rfl #[.slice A0 l0.length c0, .int .i64 a1, .func (.func 69) #[] #[]] rfl (by (try simp only [List.map_toArray, List.map_cons, List.map_nil]); first | done | rfl | (simp only [List.length_drop, List.length_take]; rfl)) ?_; (with_reducible refine (impl_Fact_int.calls k _ _ l0 a1 () t190 t191 _ ?side1 ?side2 A3.out).mono ?_); (case side1 => repeat (first | exact HR0.out | (with_reducible refine Kd.CA ?_ _) | (with_reducible refine Kd.CN ?_ _) | (with_reducible refine Kd.CD ?_))); (case side2 => exact HC0.out); rintro e w4 ⟨rfl, hb⟩; refine ⟨_, rfl, ?_⟩; have n0_ := Zz.mk (bwP (by repeat (first | (with_reducible first | exact HB.out | apply bwA | apply pwN | apply bw1) | exact HB.out)) hb); clear HB; have HB := n0_; clear n0_; (try clear hb); (try clear A3)))
 go_ret2
 exact ⟨by first | rfl | (simp [eN, eS] <;> rfl) | (simp [*, eN, eS] <;> rfl), by repeat (first | (with_reducible first | exact HB.out | apply bwA | apply pwN | apply bw1) | exact HB.out)⟩





/-! ### impl_Item_57: function 57 -/
def impl_Item_57.f (l0 : List (S57)) (a1 : Int) (l2 : List (S57)) : Option ((List (S57))) := if 0 ≤ a1 then (if a1 ≤ (l0.length : Int) then (if (l2.length : Int) = 0 then (some l0) else ((some (([] : List (S57)) : List (S57))).bind fun y204 => ((some (l0.take (a1 : Int).toNat : List (S57))).bind fun y207 => (if y204.length + y207.length < 3518437208883 then ((some (y204 ++ y207 : List (S57))).bind fun y211 => (if y211.length + l2.length < 3518437208883 then ((some (y211 ++ l2 : List (S57))).bind fun y214 => ((some (l0.drop (a1 : Int).toNat : List (S57))).bind fun y217 => (if y214.length + y217.length < 3518437208883 then (if (l0.length : Int) = 0 then (some l2) else (some (y214 ++ y217))) else (none)))) else (none))) else (none))))) else (none)) else (none)
namespace impl_Item_57_
open Go Go.Lib
theorem icopy (w : World) (ty : TypeId) (g o dLen dCap : Nat) (a : Addr) (sLen sCap : Nat) (cur : Array Value) (cs : List Value)
  (hg : w.heap[g]? = some (.cells cur 57 (0, 0))) (hn : cs.length = Nat.min sLen dLen * 5)
  (hsrc : ∀ j v, cs[j]? = some v → w.cell? (a.add j) = some v) (hfit : o + cs.length ≤ cur.size) (h1 : ∀ v ∈ cs, v.oneCell' = true) :
  (Builtin.copy_ #[47, 47] ty #[.slice (some ⟨g, o, none⟩) dLen dCap, .slice (some a) sLen sCap]).run Try.prog w =
   .ok (goInt (Nat.min sLen dLen)) (w.setRow g (cur.toList.take o ++ cs ++ cur.toList.drop (o + cs.length)).toArray) := by
 have hl := run_loadCells_list (P := Try.prog) w a cs hsrc; have hst := run_storeCells_at Try.prog g o 57 cs 0 cur w hg (by simpa using hfit) h1; obtain ⟨i, hq, hz, hi, hb⟩ := info_parts info57; simp [Builtin.copy_, run_underlying Try.underlying47, Builtin.lenOf, Builtin.firstCells, sizeOf, typeInfo, hq, hi, ← hn, hl, hst]
theorem isize (w : World) : (Go.sizeOf 57).run Try.prog w = .ok 5 w := by
 obtain ⟨i, hq, hz, hi, hb⟩ := info_parts info57; simp [sizeOf, typeInfo, hq, hi]
theorem iapart (w : World) (vb b o m vc lb cb : Nat) (hvb : vb ≠ b) (cv cb_ : Array Value) (hv : w.heap[vb]? = some (.cells cv 57 (0, 0))) (hb : w.heap[b]? = some (.cells cb_ 57 (0, 0))) (hne : cb_.size ≠ 0) :
  (callFunc 71 #[.slice (some ⟨vb, 0, none⟩) m vc, .slice (some ⟨b, o, none⟩) lb cb]).run Try.prog w = .ok (.value (.bool false)) w := by
 rw [run_callFunc_extern Try.func71 (by kernel_rfl) (by kernel_rfl) (by kernel_rfl) (e := Extern.SlicesOverlaps.overlaps #[47, 47] #[4]) (by kernel_rfl)]; rw [Lib.run_overlaps_apart w 47 4 57 Try.underlying47 5 isize ⟨vb, 0, none⟩ ⟨b, o, none⟩ m vc lb cb hvb 57 57 cv.size cb_.size (by simp [World.shape?, hv]) (by simp [World.shape?, hb]) hne (by simp [World.frozen?, hv]) (by simp [World.frozen?, hv])]; rfl
set_option maxHeartbeats 4000000 in
set_option maxRecDepth 100000 in
theorem ishift (b n c i vb m vc : Nat) (cur cv : Array Value) (w : World) (hi : i < n) (hm : 0 < m) (hroom : n + m ≤ c) (hc63 : c ≤ 9223372036854775807) (hvb : vb ≠ b)
  (hg : w.heap[b]? = some (.cells cur 57 (0, 0))) (hcur : cur.size = c * 5) (hv : w.heap[vb]? = some (.cells cv 57 (0, 0))) (hcv : m * 5 ≤ cv.size) (X1 X2 : Array Value)
  (hcp1 : ∀ ty dc sc, (Builtin.copy_ #[47, 47] ty #[.slice (some ⟨b, (i + m) * 5, none⟩) (n + m - (i + m)) dc, .slice (some ⟨b, i * 5, none⟩) (n + m - i) sc]).run Try.prog w.drew = .ok (goInt (n - i)) (w.drew.setRow b X1))
  (hcp2 : ∀ ty dc, (Builtin.copy_ #[47, 47] ty #[.slice (some ⟨b, i * 5, none⟩) (n + m - i) dc, .slice (some ⟨vb, 0, none⟩) m vc]).run Try.prog (w.drew.setRow b X1) = .ok (goInt m) ((w.drew.setRow b X1).setRow b X2)) :
  Calls Try.prog 57 #[.slice (some ⟨b, 0, none⟩) n c, .int .i64 i, .slice (some ⟨vb, 0, none⟩) m vc] w fun e w' =>
   e = .returned (.slice (some ⟨b, 0, none⟩) (n + m) c) ∧ w' = (w.drew.setRow b X1).setRow b X2 := by
 have hz1 : ¬ ((m : Int) = 0) := by omega
 have hz2 : ¬ ((i : Int) = (n : Int)) := by omega
 have hov : ∀ o lb cb, (callFunc 71 #[.slice (some ⟨vb, 0, none⟩) m vc, .slice (some ⟨b, o, none⟩) lb cb]).run Try.prog w = .ok (.value (.bool false)) w := fun o lb cb => iapart w vb b o m vc lb cb hvb cv cur hv hg (by omega); have hw1 : IntKind.i64.wrap ((i : Int) + (m : Int)) = (i : Int) + (m : Int) := by rw [IntKind.wrap_i64]; omega
 have hb1 : (0 : Int) ≤ (i : Int) + (m : Int) := by omega
 have hin : i ≤ n := by omega
 have htn : ((i : Int) + (m : Int)).toNat = i + m := by omega
 have hb2 : ¬ (c = i + m) := by omega
 have hb3 : (i : Int) ≤ (n : Int) + (m : Int) := by omega
 have hb4 : ¬ (c = i) := by omega
 have hu := Try.underlying47; have mixed : Try.prog.follows Departure.mixedOrders = true := by kernel_rfl
 go_enter Try.func57, Try.ntmps57; go_wp2_with (simp only [hov])
 go_region_law_o (refine step_copy_runI rfl _ _ 47 47 rfl _ _ (by simp [Act.eval, Act.put]) (by simp [Act.eval, Act.put]) (hcp1 _ _ _) ?_)
 go_wp2
 go_ret
 exact ⟨rfl, rfl⟩
set_option maxHeartbeats 4000000 in
set_option maxRecDepth 100000 in
theorem igrow (b n c i vb m vc G : Nat) (w : World) (ROW X1 X2 : Array Value) (hi : i < n) (hm : 0 < m) (hnc : n ≤ c) (hroom : c < n + m) (hc63 : n + m ≤ 1000000000000000) (hGn : n + m ≤ G) (hG63 : G ≤ 9223372036854775807)
  (hrz : ∀ ty, (Builtin.append_ #[47, 3] ty #[.slice (some ⟨b, 0, none⟩) i c, .int .i64 ((n : Int) + (m : Int) - (i : Int))]).run Try.prog w = .ok (.slice (some ⟨w.heap.size, 0, none⟩) (n + m) G) (w.drew.alloc (.cells ROW 57)))
  (hcpA : ∀ (W : World), W.heap = (w.alloc (.cells ROW 57)).heap → ∀ ty dc, (Builtin.copy_ #[47, 47] ty #[.slice (some ⟨w.heap.size, i * 5, none⟩) (n + m - i) dc, .slice (some ⟨vb, 0, none⟩) m vc]).run Try.prog W = .ok (goInt m) (W.setRow w.heap.size X1))
  (hcpB : ∀ (W : World), W.heap = ((w.alloc (.cells ROW 57)).setRow w.heap.size X1).heap → ∀ ty dc sc, (Builtin.copy_ #[47, 47] ty #[.slice (some ⟨w.heap.size, (i + m) * 5, none⟩) (n + m - (i + m)) dc, .slice (some ⟨b, i * 5, none⟩) (n - i) sc]).run Try.prog W = .ok (goInt (n - i)) (W.setRow w.heap.size X2)) :
  Calls Try.prog 57 #[.slice (some ⟨b, 0, none⟩) n c, .int .i64 i, .slice (some ⟨vb, 0, none⟩) m vc] w fun e w' =>
   e = .returned (.slice (some ⟨w.heap.size, 0, none⟩) (n + m) G) ∧ w' = (((w.alloc (.cells ROW 57)).drew.setRow w.heap.size X1).drew).setRow w.heap.size X2 := by
 have hz1 : ¬ ((m : Int) = 0) := by omega
 have hz2 : ¬ ((i : Int) = (n : Int)) := by omega
 have hz3 : (c : Int) < (n : Int) + (m : Int) := by omega
 have hw1 : IntKind.i64.wrap ((i : Int) + (m : Int)) = (i : Int) + (m : Int) := by rw [IntKind.wrap_i64]; omega
 have hb1 : (0 : Int) ≤ (i : Int) + (m : Int) := by omega
 have hin : i ≤ n := by omega
 have htn : ((i : Int) + (m : Int)).toNat = i + m := by omega
 have hb3 : (i : Int) ≤ (n : Int) := by omega
 have hGi : ¬ (G = i) := by omega
 have hGim : ¬ (G = i + m) := by omega
 have hci : ¬ (c = i) := by omega
 have hu := Try.underlying47; have mixed : Try.prog.follows Departure.mixedOrders = true := by kernel_rfl
 have hA := hcpA ((w.alloc (.cells ROW 57)).drew) rfl; have hB := hcpB (((w.alloc (.cells ROW 57)).drew.setRow w.heap.size X1).drew) rfl; clear hcpA; go_enter Try.func57, Try.ntmps57
 go_wp2_with (first
  | (at_builtin; refine Lib.wpList_append_run _ rfl _ _ _ _ rfl _ _ rfl rfl _ _ (hrz _) ?_))
 go_region_law_o (refine step_copy_runI rfl _ _ 47 47 rfl (.slice (some ⟨w.heap.size, (i + m) * 5, none⟩) (n + m - (i + m)) (G - (i + m))) (.slice (some ⟨b, i * 5, none⟩) (n - i) (c - i)) (by simp [Act.eval, Act.put]) (by simp [Act.eval, Act.put]) (hcpB _ rfl 3 (G - (i + m)) (c - i)) ?_)
 go_wp2
 go_ret
 exact ⟨rfl, rfl⟩
theorem isplice (L vs : List Value) (i n m sz : Nat) (hin : i ≤ n) (hL : (n + m) * sz ≤ L.length) (hv : vs.length = m * sz) :
  ∃ c1 : List Value, c1 = (L.drop (i * sz)).take ((n - i) * sz) ∧ c1.length = (n - i) * sz ∧
   ∀ X1, X1 = L.take ((i + m) * sz) ++ c1 ++ L.drop ((i + m) * sz + c1.length) → X1.length = L.length ∧
    ∀ X2, X2 = X1.take (i * sz) ++ vs ++ X1.drop (i * sz + vs.length) → X2.length = L.length ∧ X2.take ((n + m) * sz) = (L.take (n * sz)).take (i * sz) ++ vs ++ (L.take (n * sz)).drop (i * sz) := by
 have e1 : (n - i) * sz + i * sz = n * sz := by rw [← Nat.add_mul, Nat.sub_add_cancel hin]
 have e2 : (i + m) * sz = i * sz + m * sz := Nat.add_mul ..; have e3 : (n + m) * sz = n * sz + m * sz := Nat.add_mul ..; have hc : ((L.drop (i * sz)).take ((n - i) * sz)).length = (n - i) * sz := by rw [List.length_take, List.length_drop]; omega
 refine ⟨_, rfl, hc, fun X1 h1 => ?_⟩; have hX1 : X1.length = L.length := by rw [h1]; simp only [List.length_append, hc, List.length_take, List.length_drop]; omega
 refine ⟨hX1, fun X2 h2 => ?_⟩; have hX2 : X2.length = L.length := by rw [h2]; simp only [List.length_append, hX1, hv, List.length_take, List.length_drop]; omega
 refine ⟨hX2, ?_⟩
 have t1 : X1.take (i * sz) = L.take (i * sz) := by
  rw [h1, List.append_assoc, List.take_append_of_le_length (by rw [List.length_take]; omega), List.take_take]; congr 1; omega
 have t2 : X1.drop (i * sz + vs.length) = (L.drop (i * sz)).take ((n - i) * sz) ++ L.drop ((i + m) * sz + ((L.drop (i * sz)).take ((n - i) * sz)).length) := by
  rw [h1, hv, List.append_assoc]; have : i * sz + m * sz = (L.take ((i + m) * sz)).length := by rw [List.length_take]; omega
  rw [this, List.drop_left]
 have t3 : (L.take (n * sz)).take (i * sz) = L.take (i * sz) := by rw [List.take_take]; congr 1; omega
 have t4 : (L.take (n * sz)).drop (i * sz) = (L.drop (i * sz)).take ((n - i) * sz) := by rw [List.drop_take]; congr 1; omega
 rw [h2, t1, t2, t3, t4, ← List.append_assoc]; rw [List.take_append_of_le_length (by simp only [List.length_append, List.length_take, List.length_drop, hv]; omega)]; rw [List.take_of_length_le (by simp only [List.length_append, List.length_take, List.length_drop, hv]; omega)]
theorem itake (L : List Value) (k j : Nat) (v : Value) (h : (L.take k)[j]? = some v) : L[j]? = some v := by
 rw [List.getElem?_take] at h; split at h
 ·exact h
 ·cases h
theorem icell (w : World) (b o : Nat) (cur : Array Value) (t : TypeId) (hg : w.heap[b]? = some (.cells cur t (0, 0))) (cs : List Value) (hcs : ∀ j v, cs[j]? = some v → cur.toList[o + j]? = some v) :
  ∀ j v, cs[j]? = some v → w.cell? ((⟨b, o, none⟩ : Addr).add j) = some v := by
 intro j v hj; have hadd : (⟨b, o, none⟩ : Addr).add j = ⟨b, o + j, none⟩ := by unfold Addr.add; split <;> simp_all
 rw [hadd]; have := hcs j v hj; rw [Array.getElem?_toList] at this; simp [World.cell?, hg, this]
theorem igrown1 (w : World) (b : Nat) (X : Array Value) : w.grownBy (w.setRow b X) (some b) :=
 ⟨rfl, rfl, rfl, by simp [World.setRow], fun k hk hne => setRow_other w b k X (fun e => hne (by rw [e]))⟩
theorem igrown2 (w : World) (b : Nat) (X : Array Value) : w.grownBy (w.drew.setRow b X) (some b) :=
 ⟨rfl, rfl, rfl, (igrown1 w.drew b X).size, (igrown1 w.drew b X).block⟩
theorem iroom (b n c i vb m vc : Nat) (cur cv : Array Value) (w : World) (hi : i < n) (hm : 0 < m) (hroom : n + m ≤ c) (hc63 : c ≤ 9223372036854775807) (hvb : vb ≠ b)
  (hg : w.heap[b]? = some (.cells cur 57 (0, 0))) (hcur : cur.size = c * 5) (hv : w.heap[vb]? = some (.cells cv 57 (0, 0))) (hcv : m * 5 ≤ cv.size)
  (h1c : ∀ v ∈ cur.toList.take (n * 5), v.oneCell' = true) (h1v : ∀ v ∈ cv.toList.take (m * 5), v.oneCell' = true) :
  Calls Try.prog 57 #[.slice (some ⟨b, 0, none⟩) n c, .int .i64 i, .slice (some ⟨vb, 0, none⟩) m vc] w fun e w' =>
   e = .returned (.slice (some ⟨b, 0, none⟩) (n + m) c) ∧ ∃ X : Array Value, X.size = c * 5 ∧ X.toList.take ((n + m) * 5) = (cur.toList.take (n * 5)).take (i * 5) ++ cv.toList.take (m * 5) ++ (cur.toList.take (n * 5)).drop (i * 5) ∧ w'.heap[b]? = some (.cells X 57 (0, 0)) ∧ w.grownBy w' (some b) := by
 have hL : (n + m) * 5 ≤ cur.toList.length := by rw [Array.length_toList, hcur]; omega
 have hvl : (cv.toList.take (m * 5)).length = m * 5 := by rw [List.length_take, Array.length_toList]; omega
 obtain ⟨c1, hc1, hl1, hS⟩ := isplice cur.toList (cv.toList.take (m * 5)) i n m 5 (by omega) hL hvl; obtain ⟨hX1, hS2⟩ := hS _ rfl; obtain ⟨hX2, hT⟩ := hS2 _ rfl; have hgd : w.drew.heap[b]? = some (.cells cur 57 (0, 0)) := hg
 have k1 : ∀ ty dc sc, (Builtin.copy_ #[47, 47] ty #[.slice (some ⟨b, (i + m) * 5, none⟩) (n + m - (i + m)) dc, .slice (some ⟨b, i * 5, none⟩) (n + m - i) sc]).run Try.prog w.drew = .ok (goInt (n - i)) (w.drew.setRow b (cur.toList.take ((i + m) * 5) ++ c1 ++ cur.toList.drop ((i + m) * 5 + c1.length)).toArray) := fun ty dc sc => by
  have hmin : Nat.min (n + m - i) (n + m - (i + m)) = n - i := by show min _ _ = _; omega
  have h := icopy w.drew ty b ((i + m) * 5) (n + m - (i + m)) dc ⟨b, i * 5, none⟩ (n + m - i) sc cur c1 hgd (by rw [hmin, hl1])
   (icell w.drew b (i * 5) cur 57 hgd c1 (fun j v hj => by rw [hc1] at hj; have hk := itake _ _ _ _ hj; rwa [List.getElem?_drop] at hk))
   (by rw [hl1, hcur]; omega) (fun v hv' => h1c v (by
    rw [hc1] at hv'; have e : (cur.toList.drop (i * 5)).take ((n - i) * 5) = (cur.toList.take (n * 5)).drop (i * 5) := by rw [List.drop_take]; congr 1; omega
    rw [e] at hv'; exact List.mem_of_mem_drop hv'))
  rw [hmin] at h; have : ((n - i : Nat) : Int) = (n : Int) - i := by omega
  rw [show goInt ((n : Int) - i) = goInt ((n - i : Nat) : Int) by rw [this]]; exact h
 generalize hx1 : cur.toList.take ((i + m) * 5) ++ c1 ++ cur.toList.drop ((i + m) * 5 + c1.length) = X1 at hX1 hX2 hT k1; have hg1 : (w.drew.setRow b X1.toArray).heap[b]? = some (.cells X1.toArray 57 (0, 0)) := setRow_heap w.drew b cur X1.toArray 57 (0, 0) hgd; have hv1 : (w.drew.setRow b X1.toArray).heap[vb]? = some (.cells cv 57 (0, 0)) := (setRow_other w.drew b vb X1.toArray hvb).trans hv
 have k2 : ∀ ty dc, (Builtin.copy_ #[47, 47] ty #[.slice (some ⟨b, i * 5, none⟩) (n + m - i) dc, .slice (some ⟨vb, 0, none⟩) m vc]).run Try.prog (w.drew.setRow b X1.toArray) = .ok (goInt m) ((w.drew.setRow b X1.toArray).setRow b (X1.take (i * 5) ++ cv.toList.take (m * 5) ++ X1.drop (i * 5 + (cv.toList.take (m * 5)).length)).toArray) := fun ty dc => by
  have hmin : Nat.min m (n + m - i) = m := by show min _ _ = _; omega
  have h := icopy (w.drew.setRow b X1.toArray) ty b (i * 5) (n + m - i) dc ⟨vb, 0, none⟩ m vc X1.toArray (cv.toList.take (m * 5)) hg1 (by rw [hmin, hvl])
   (icell _ vb 0 cv 57 hv1 _ (fun j v hj => by have hk := itake _ _ _ _ hj; rwa [Nat.zero_add]))
   (by rw [hvl]; show _ ≤ X1.toArray.size; rw [List.size_toArray, hX1]; omega) h1v
  rw [hmin] at h; exact h
 refine (ishift b n c i vb m vc cur cv w hi hm hroom hc63 hvb hg hcur hv hcv _ _ k1 k2).mono fun e w' hE => ?_; obtain ⟨he, rfl⟩ := hE; refine ⟨he, _, by rw [List.size_toArray, hX2, Array.length_toList, hcur], hT, setRow_heap _ b _ _ 57 (0, 0) hg1, ?_⟩; exact World.grownBy.trans (b := w.drew.setRow b X1.toArray) (igrown2 w b X1.toArray) (igrown1 _ b _)
/-- The list law of the road without room: what stood ahead, and zeros; then v, then what stood behind. -/
theorem isplice2 (xs vs Zs : List Value) (i n m sz : Nat) (hin : i ≤ n) (hx : xs.length = n * sz) (hv : vs.length = m * sz) (hz : (n + m - i) * sz ≤ Zs.length) :
  ∀ X0 : List Value, X0 = xs.take (i * sz) ++ Zs → ∀ X1, X1 = X0.take (i * sz) ++ vs ++ X0.drop (i * sz + vs.length) → X1.length = X0.length ∧
   ∀ X2, X2 = X1.take ((i + m) * sz) ++ xs.drop (i * sz) ++ X1.drop ((i + m) * sz + (xs.drop (i * sz)).length) → X2.length = X0.length ∧ X2.take ((n + m) * sz) = xs.take (i * sz) ++ vs ++ xs.drop (i * sz) := by
 intro X0 h0 X1 h1; have e1 : (n - i) * sz + i * sz = n * sz := by rw [← Nat.add_mul, Nat.sub_add_cancel hin]
 have e2 : (i + m) * sz = i * sz + m * sz := Nat.add_mul ..; have e3 : (n + m) * sz = n * sz + m * sz := Nat.add_mul ..; have e4 : (n + m - i) * sz + i * sz = (n + m) * sz := by rw [← Nat.add_mul, Nat.sub_add_cancel (by omega)]
 have l1 : (xs.take (i * sz)).length = i * sz := by rw [List.length_take]; omega
 have l2 : (xs.drop (i * sz)).length = (n - i) * sz := by rw [List.length_drop]; omega
 have l0 : X0.length = i * sz + Zs.length := by rw [h0, List.length_append, l1]
 have t0 : X0.take (i * sz) = xs.take (i * sz) := by rw [h0]; exact List.take_left' l1
 have hX1 : X1.length = X0.length := by rw [h1]; simp only [List.length_append, hv, List.length_take, List.length_drop]; omega
 refine ⟨hX1, fun X2 h2 => ?_⟩; have hX2 : X2.length = X0.length := by rw [h2]; simp only [List.length_append, hX1, l2, List.length_take, List.length_drop]; omega
 refine ⟨hX2, ?_⟩
 have t1 : X1.take ((i + m) * sz) = xs.take (i * sz) ++ vs := by
  have : (i + m) * sz = (xs.take (i * sz) ++ vs).length := by rw [List.length_append, l1, hv, e2]
  rw [h1, t0, this, List.take_left]
 have : (n + m) * sz = (xs.take (i * sz) ++ vs ++ xs.drop (i * sz)).length := by simp only [List.length_append, l1, l2, hv]; omega
 rw [h2, t1, this, List.take_left]
theorem igrown (b n c i vb m vc : Nat) (cur cv : Array Value) (w : World) (hi : i < n) (hm : 0 < m) (hnc : n ≤ c) (hroom : c < n + m) (hby : (n + m) * 40 ≤ 140737488355328)
  (hg : w.heap[b]? = some (.cells cur 57 (0, 0))) (hcur : cur.size = c * 5) (hv : w.heap[vb]? = some (.cells cv 57 (0, 0))) (hcv : m * 5 ≤ cv.size)
  (h1c : ∀ v ∈ cur.toList.take (n * 5), v.oneCell' = true) (h1v : ∀ v ∈ cv.toList.take (m * 5), v.oneCell' = true) :
  Calls Try.prog 57 #[.slice (some ⟨b, 0, none⟩) n c, .int .i64 i, .slice (some ⟨vb, 0, none⟩) m vc] w fun e w' =>
   ∃ G, e = .returned (.slice (some ⟨w.heap.size, 0, none⟩) (n + m) G) ∧ n + m ≤ G ∧ G ≤ maxLen ∧ ∃ X : Array Value, X.size = G * 5 ∧ X.toList.take ((n + m) * 5) = (cur.toList.take (n * 5)).take (i * 5) ++ cv.toList.take (m * 5) ++ (cur.toList.take (n * 5)).drop (i * 5) ∧ w'.heap[w.heap.size]? = some (.cells X 57 (0, 0)) ∧ w.grownBy w' none := by
 obtain ⟨i0, hi0, hz0, hzs, hzb⟩ := info_parts info57; have hbw : b < w.heap.size := (Array.getElem?_eq_some_iff.1 hg).1; have hvw : vb < w.heap.size := (Array.getElem?_eq_some_iff.1 hv).1; obtain ⟨xs, hxs⟩ : ∃ xs, xs = cur.toList.take (n * 5) := ⟨_, rfl⟩
 obtain ⟨vs, hvs⟩ : ∃ vs, vs = cv.toList.take (m * 5) := ⟨_, rfl⟩
 rw [← hxs] at h1c ⊢; rw [← hvs] at h1v ⊢; have hxl : xs.length = n * 5 := by rw [hxs, List.length_take, Array.length_toList]; omega
 have hvl : vs.length = m * 5 := by rw [hvs, List.length_take, Array.length_toList]; omega
 have hkk : (n : Int) + (m : Int) - (i : Int) = ((n + m - i : Nat) : Int) := by omega
 have hik : i + (n + m - i) = n + m := by omega
 have htl : (xs.take (i * 5)).length = i * 5 := by rw [List.length_take]; omega
 have hold : (Builtin.firstCells i0.size i (.slice (some ⟨b, 0, none⟩) i c)).run Try.prog w.drew = .ok (xs.take (i * 5)).toArray w.drew := by
  rw [hzs]
  exact run_firstCells_some w.drew 5 i ⟨b, 0, none⟩ i c (xs.take (i * 5)) htl
   (icell w.drew b 0 cur 57 hg _ (fun j v hj => by rw [Nat.zero_add]; have h2 := itake _ _ _ _ hj; rw [hxs] at h2; exact itake _ _ _ _ h2))
 obtain ⟨G, hG⟩ : ∃ G, G = grownCap w (n + m) c 57 := ⟨_, rfl⟩
 obtain ⟨ZS, hZS⟩ : ∃ ZS : Array Value, ZS = Builtin.zeroCells ((.agg #[(.int .i64 0), (.int .i64 0), (.int .i64 0), (.bool false), (.int .i64 0)]) : Value).cells (n + m - i) ++ Builtin.zeroCells ((.agg #[(.int .i64 0), (.int .i64 0), (.int .i64 0), (.bool false), (.int .i64 0)]) : Value).cells (G - (n + m)) := ⟨_, rfl⟩
 have hGn : n + m ≤ G := by rw [hG]; exact grownCap_ge w _ _ _
 have hGm : G ≤ maxLen := by rw [hG]; exact grownCap_le_maxLen w (n + m) c 57 (by unfold maxLen; omega)
 have hZl : ZS.size = (G - i) * 5 := by
  rw [hZS, Array.size_append, size_zeroCells, size_zeroCells, show ((.agg #[(.int .i64 0), (.int .i64 0), (.int .i64 0), (.bool false), (.int .i64 0)]) : Value).cells.size = 5 from rfl, ← Nat.add_mul]; congr 1
  omega
 obtain ⟨ROW, hROW⟩ : ∃ ROW : Array Value, ROW = (xs.take (i * 5)).toArray ++ ZS := ⟨_, rfl⟩
 have hRl : ROW.size = G * 5 := by
  rw [hROW, Array.size_append, hZl, List.size_toArray, htl, ← Nat.add_mul]; congr 1
  omega
 have hrz : ∀ ty, (Builtin.append_ #[47, 3] ty #[.slice (some ⟨b, 0, none⟩) i c, .int .i64 ((n : Int) + (m : Int) - (i : Int))]).run Try.prog w =
   .ok (.slice (some ⟨w.heap.size, 0, none⟩) (n + m) G) (w.drew.alloc (.cells ROW 57)) := fun ty => by
  have h := Lib.run_append_grow_zeros w 47 3 ty 57 i0 _ .i64 .i64 Try.underlying47 Try.underlying3 hi0 hz0 (some ⟨b, 0, none⟩) i c (xs.take (i * 5)) hold (n + m - i) (by omega) (by omega) (by omega) (by omega) (by rw [hzb]; omega) (by rw [hzb, hik]; exact growslice_fits hroom hby); rw [hik, ← hG] at h; rw [hkk, hROW, hZS, ← Array.append_assoc]; exact h
 have hRt : ROW.toList = xs.take (i * 5) ++ ZS.toList := by rw [hROW, Array.toList_append]
 obtain ⟨hX1, hS2⟩ := isplice2 xs vs ZS.toList i n m 5 (by omega) hxl hvl (by rw [Array.length_toList, hZl]; exact Nat.mul_le_mul_right _ (by omega)) ROW.toList hRt _ rfl; obtain ⟨hX2, hT⟩ := hS2 _ rfl
 have hcpA : ∀ (W : World), W.heap = (w.alloc (.cells ROW 57)).heap → ∀ ty dc, (Builtin.copy_ #[47, 47] ty #[.slice (some ⟨w.heap.size, i * 5, none⟩) (n + m - i) dc, .slice (some ⟨vb, 0, none⟩) m vc]).run Try.prog W = .ok (goInt m) (W.setRow w.heap.size (ROW.toList.take (i * 5) ++ vs ++ ROW.toList.drop (i * 5 + vs.length)).toArray) := fun W hW ty dc => by
  have hmin : Nat.min m (n + m - i) = m := by show min _ _ = _; omega
  have hWb : W.heap[w.heap.size]? = some (.cells ROW 57 (0, 0)) := by rw [hW]; exact heap_alloc_new w _
  have hWv : W.heap[vb]? = some (.cells cv 57 (0, 0)) := by rw [hW]; exact (Below.heap_alloc w _ vb hvw).trans hv
  have h := icopy W ty w.heap.size (i * 5) (n + m - i) dc ⟨vb, 0, none⟩ m vc ROW vs hWb (by rw [hmin, hvl])
   (icell W vb 0 cv 57 hWv _ (fun j v hj => by rw [hvs] at hj; have hk := itake _ _ _ _ hj; rwa [Nat.zero_add]))
   (by rw [hvl, hRl]; omega) h1v
  rw [hmin] at h; exact h
 generalize hx1 : ROW.toList.take (i * 5) ++ vs ++ ROW.toList.drop (i * 5 + vs.length) = X1 at hX1 hX2 hT hcpA; have hdl : (xs.drop (i * 5)).length = (n - i) * 5 := by rw [List.length_drop, hxl, Nat.sub_mul]
 have hcpB : ∀ (W : World), W.heap = ((w.alloc (.cells ROW 57)).setRow w.heap.size X1.toArray).heap → ∀ ty dc sc, (Builtin.copy_ #[47, 47] ty #[.slice (some ⟨w.heap.size, (i + m) * 5, none⟩) (n + m - (i + m)) dc, .slice (some ⟨b, i * 5, none⟩) (n - i) sc]).run Try.prog W = .ok (goInt (n - i)) (W.setRow w.heap.size (X1.take ((i + m) * 5) ++ xs.drop (i * 5) ++ X1.drop ((i + m) * 5 + (xs.drop (i * 5)).length)).toArray) := fun W hW ty dc sc => by
  have hmin : Nat.min (n - i) (n + m - (i + m)) = n - i := by show min _ _ = _; omega
  have hWb : W.heap[w.heap.size]? = some (.cells X1.toArray 57 (0, 0)) := by rw [hW]; exact setRow_heap _ _ ROW _ 57 (0, 0) (heap_alloc_new w _)
  have hWo : W.heap[b]? = some (.cells cur 57 (0, 0)) := by rw [hW]; exact (setRow_other _ _ _ _ (by omega)).trans ((Below.heap_alloc w _ b hbw).trans hg)
  have h := icopy W ty w.heap.size ((i + m) * 5) (n + m - (i + m)) dc ⟨b, i * 5, none⟩ (n - i) sc X1.toArray (xs.drop (i * 5)) hWb (by rw [hmin, hdl])
   (icell W b (i * 5) cur 57 hWo _ (fun j v hj => by rw [List.getElem?_drop, hxs] at hj; exact itake _ _ _ _ hj))
   (by rw [hdl, List.size_toArray, hX1, Array.length_toList, hRl]; omega) (fun v hv' => h1c v (List.mem_of_mem_drop hv'))
  rw [hmin] at h; have : ((n - i : Nat) : Int) = (n : Int) - i := by omega
  rw [show goInt ((n : Int) - i) = goInt ((n - i : Nat) : Int) by rw [this]]; exact h
 refine (igrow b n c i vb m vc G w ROW _ _ hi hm hnc hroom (by omega) hGn (by unfold maxLen at hGm; omega) hrz hcpA hcpB).mono fun e w' hE => ?_; obtain ⟨he, rfl⟩ := hE; refine ⟨G, he, hGn, hGm, _, by rw [List.size_toArray, hX2, Array.length_toList, hRl], hT, setRow_heap _ w.heap.size X1.toArray _ 57 (0, 0) (setRow_heap _ w.heap.size ROW _ 57 (0, 0) (heap_alloc_new w _)), ?_⟩; refine ⟨rfl, rfl, rfl, Nat.le_trans (World.grownBy_alloc w (.cells ROW 57) none).size (Nat.le_trans (igrown1 ((w.alloc (.cells ROW 57)).drew) w.heap.size X1.toArray).size (igrown1 _ w.heap.size _).size), fun k hk _ => ?_⟩; have hne : k ≠ w.heap.size := by omega
 exact (setRow_other _ w.heap.size k _ hne).trans ((setRow_other _ w.heap.size k _ hne).trans (Below.heap_alloc w _ k hk))
set_option maxHeartbeats 4000000 in
set_option maxRecDepth 100000 in
theorem iend (A : Option Addr) (n c m vb vc : Nat) (w w1 : World) (v1 : Value) (hm : 0 < m) (hnc : n ≤ c) (h63 : n + m ≤ 1000000000000000) (hc63 : c ≤ 9223372036854775807)
  (hrun : ∀ ty, (Builtin.append_ #[47, 47] ty #[.slice A n c, .slice (some ⟨vb, 0, none⟩) m vc]).run Try.prog w = .ok v1 w1) :
  Calls Try.prog 57 #[.slice A n c, .int .i64 n, .slice (some ⟨vb, 0, none⟩) m vc] w fun e w' => e = .returned v1 ∧ w' = w1 := by
 have hz1 : ¬ ((m : Int) = 0) := by omega
 obtain ⟨i0, hi0, _, hsz0, _⟩ := info_parts info57; have hcut := cut_from (P := Try.prog) 47 57 .i64 Try.underlying47 hi0 5 hsz0 A n c (n : Int) (by omega) (by omega); clear hi0 hsz0; go_enter Try.func57, Try.ntmps57
 go_wp2_with (first
  | (at_builtin; refine Lib.wpList_append_run _ rfl _ _ _ _ rfl _ _ rfl rfl _ _ (hrun _) ?_))
 all_goals (go_ret; exact ⟨rfl, rfl⟩)
theorem iown (base : Nat) (v0 v2 : Value) (n i m : Nat) (xs ys : List Value) (w : World) (h0 : w.ownsRow base 57 5 v0 n xs) (h2 : w.ownsRow base 57 5 v2 m ys) (hne : v0.ownBlock = none ∨ v2.ownBlock ≠ v0.ownBlock)
  (hi : i ≤ n) (hm : 0 < m) (hby : (n + m) * 40 ≤ 140737488355328) (hbase : base ≤ w.heap.size) (h1x : ∀ v ∈ xs, v.oneCell' = true) (h1y : ∀ v ∈ ys, v.oneCell' = true) :
  Calls Try.prog 57 #[v0, .int .i64 i, v2] w fun e w' =>
   ∃ v' : Value, e = .returned v' ∧ w'.ownsRow base 57 5 v' (n + m) (xs.take (i * 5) ++ ys ++ xs.drop (i * 5)) ∧ w.grownBy w' v0.ownBlock ∧ (v'.ownBlock = v0.ownBlock ∨ v'.ownBlock = some w.heap.size) := by
 have hlen : (xs.take (i * 5) ++ ys ++ xs.drop (i * 5)).length = (n + m) * 5 := by simp only [List.length_append, List.length_take, List.length_drop, h0.1, h2.1]; omega
 obtain ⟨vb, vc, cv, rfl, hvb, hv, hmc, hvm, hcv, hvt⟩ : ∃ g cap cur, v2 = .slice (some ⟨g, 0, none⟩) m cap ∧ base ≤ g ∧ w.heap[g]? = some (.cells cur 57 (0, 0)) ∧ m ≤ cap ∧ cap ≤ maxLen ∧ cur.size = cap * 5 ∧ cur.toList.take (m * 5) = ys := by
  rcases h2.2 with h | h
  ·omega
  ·exact h
 have hcv' : m * 5 ≤ cv.size := by rw [hcv]; exact Nat.mul_le_mul_right _ hmc
 rcases Nat.lt_or_eq_of_le hi with hlt | rfl
 ·obtain ⟨b, c, cur, rfl, hb, hg, hnc, hcm, hcs, ht⟩ : ∃ g cap cur, v0 = .slice (some ⟨g, 0, none⟩) n cap ∧ base ≤ g ∧ w.heap[g]? = some (.cells cur 57 (0, 0)) ∧ n ≤ cap ∧ cap ≤ maxLen ∧ cur.size = cap * 5 ∧ cur.toList.take (n * 5) = xs := by
   rcases h0.2 with h | h
   ·omega
   ·exact h
  have hne' : vb ≠ b := by
   rcases hne with h | h
   ·simp [Value.ownBlock] at h
   ·simpa [Value.ownBlock] using h
  by_cases hroom : n + m ≤ c
  ·refine (iroom b n c i vb m vc cur cv w hlt hm hroom (by unfold maxLen at hcm; omega) hne' hg hcs hv hcv' (by rw [ht]; exact h1x) (by rw [hvt]; exact h1y)).mono fun e w' hE => ?_; obtain ⟨he, X, hXs, hXt, hXh, hgr⟩ := hE; rw [ht, hvt] at hXt; exact ⟨_, he, ⟨hlen, .inr ⟨b, c, X, rfl, hb, hXh, hroom, hcm, hXs, hXt⟩⟩, hgr, .inl rfl⟩
  ·refine (igrown b n c i vb m vc cur cv w hlt hm hnc (by omega) hby hg hcs hv hcv' (by rw [ht]; exact h1x) (by rw [hvt]; exact h1y)).mono fun e w' hE => ?_; obtain ⟨G, he, hGn, hGm, X, hXs, hXt, hXh, hgr⟩ := hE; rw [ht, hvt] at hXt; exact ⟨_, he, ⟨hlen, .inr ⟨w.heap.size, G, X, rfl, hbase, hXh, hGn, hGm, hXs, hXt⟩⟩, ⟨hgr.os, hgr.tape, hgr.output, hgr.size, fun k hk _ => hgr.block k hk (by simp)⟩, .inr rfl⟩
 ·obtain ⟨i0, hi0, hz0, hzs, hzb⟩ := info_parts info57
  have hxd : xs.drop (i * 5) = [] := List.drop_eq_nil_of_le (by rw [h0.1]; exact Nat.le_refl _); have hxt : xs.take (i * 5) = xs := List.take_of_length_le (by rw [h0.1]; exact Nat.le_refl _); rw [hxd, hxt, List.append_nil]; obtain ⟨A, c, rfl⟩ := own_slice h0; have hnc := own_le h0
  have hcm : c ≤ 9223372036854775807 := by
   rcases h0.2 with ⟨h, _⟩ | ⟨_, _, _, h, _, _, _, hcm, _⟩
   ·injection h with _ _ h; omega
   ·injection h with _ _ h; unfold maxLen at hcm; omega
  obtain ⟨v1, w1, hrun, ho1, hg1, _, hat⟩ := run_append_own_at (P := Try.prog) w base 47 47 57 i0 _ 5 40 Try.underlying47 hi0 hz0 hzs hzb rfl (by decide) (.slice A i c) i xs h0 ⟨vb, 0, none⟩ m vc ys h2.1
   (icell w vb 0 cv 57 hv _ (fun j v hj => by rw [← hvt] at hj; have hk := itake _ _ _ _ hj; rwa [Nat.zero_add])) h1y (by unfold maxLen; omega) hby hbase
  have hrun' : ∀ ty, (Builtin.append_ #[47, 47] ty #[.slice A i c, .slice (some ⟨vb, 0, none⟩) m vc]).run Try.prog w = .ok v1 w1 := fun _ => hrun; refine (iend A i c m vb vc w w1 v1 hm hnc (by omega) hcm hrun').mono fun e w' hE => ?_; obtain ⟨he, rfl⟩ := hE; exact ⟨v1, he, ho1, hg1, hat⟩
/-- Insert, both rows of the call's own, v with an element at least. -/
theorem irows {α : Type} (d : Kd α) (hds : d.sz = 5) (base : Nat) (v0 v2 : Value) (l0 l2 : List α) (i : Nat) (P0 P2 : Nat → Prop) (w0 w : World) (hB : Below base w0 w) (ho0 : d.R 57 w base P0 v0 l0) (ho2 : d.R 57 w base P2 v2 l2) (h20 : ∀ k, P2 k → ¬ P0 k)
  (hi : i ≤ l0.length) (hm : 0 < l2.length) (hby : (l0.length + l2.length) * 40 ≤ 140737488355328) (hbase : base ≤ w.heap.size) :
  Calls Try.prog 57 #[v0, .int .i64 i, v2] w fun e w' =>
   ∃ v' : Value, e = .returned v' ∧ d.R 57 w' base (fun k => ((P0 k ∨ P2 k) ∨ w.heap.size ≤ k)) v' (l0.take i ++ l2 ++ l0.drop i) ∧ Below base w0 w' ∧ Kept w w' (fun k => P0 k ∨ P2 k) := by
 obtain ⟨hk0, inner0, hown0, hr0⟩ := ho0; obtain ⟨hk2, inner2, hown2, hr2⟩ := ho2; rw [hds] at hown0 hown2 hr0 hr2
 have hne : v0.ownBlock = none ∨ v2.ownBlock ≠ v0.ownBlock := by
  cases h : v0.ownBlock with
  | none => exact .inl rfl
  | some k => exact .inr (fun e => h20 k (hk2 k e) (hk0 k h))
 have ho' : Calls Try.prog 57 #[v0, .int .i64 i, v2] w _ := iown base v0 v2 l0.length i l2.length inner0 inner2 w hown0 hown2 hne hi hm hby hbase
  (Kd.reps_one hr0 (by decide) (fun p c hp => d.K_one (d.K_of_M hp))) (Kd.reps_one hr2 (by decide) (fun p c hp => d.K_one (d.K_of_M hp)))
 refine ho'.mono fun e w' hE => ?_; obtain ⟨v', he, ho, hg, hat⟩ := hE
 have step : ∀ {q : α} {c : List Value} {o : Nat → Prop}, d.M w base o q c → (∀ k, o k → (P0 k ∨ P2 k) ∧ some k ≠ v0.ownBlock) → d.M w' base (fun k => ((P0 k ∨ P2 k) ∨ w.heap.size ≤ k) ∧ some k ≠ v'.ownBlock) q c := by
  intro q c o hq ho; have h1 := d.M_move (w1 := w') (fun k hk => hg.block k hk.2.2.1 (ho k hk.1).2) (d.M_bound hq); refine d.M_mono (fun k hk => ⟨.inl (ho k hk.1).1, ?_⟩) h1; rcases hat with hat | hat
  ·rw [hat]; exact (ho k hk.1).2
  ·rw [hat]
   intro e; injection e with e
   have := hk.2.2.1; omega
 have r0 : Reps (d.M w' base (fun k => ((P0 k ∨ P2 k) ∨ w.heap.size ≤ k) ∧ some k ≠ v'.ownBlock)) 5 l0 inner0 := hr0.imp_ (fun _ _ hq => step hq (fun k hk => ⟨.inl hk.1, hk.2⟩)); have r2 : Reps (d.M w' base (fun k => ((P0 k ∨ P2 k) ∨ w.heap.size ≤ k) ∧ some k ≠ v'.ownBlock)) 5 l2 inner2 := hr2.imp_ (fun _ _ hq => step hq (fun k hk => ⟨.inr hk.1, fun e => h20 k hk.1 (hk0 k e.symm)⟩)); have hL : (l0.take i ++ l2 ++ l0.drop i).length = l0.length + l2.length := by simp only [List.length_append, List.length_take, List.length_drop]; omega
 refine ⟨v', he, ⟨fun k hk => ?_, _, by rw [hL, hds]; exact ho, by rw [hds]; exact Kd.reps_append (Kd.reps_append (Kd.reps_take r0 hi) r2) (Kd.reps_drop r0)⟩, hB.grown hg hbase (own_base hown0), Kept.of_grown hg (Kept.refl w _) (fun k e => .inl (.inl (hk0 k e)))⟩; rcases hat with hat | hat
 ·exact .inl (.inl (hk0 k (hat ▸ hk)))
 ·rw [hat] at hk
  injection hk with hk
  exact .inr (by omega)
end impl_Item_57_
theorem impl_Item_57.what (l0 : List (S57)) (a1 : Int) (l2 r : List (S57)) (h : impl_Item_57.f l0 a1 l2 = some r) (hm : 0 < l2.length) : 0 ≤ a1 ∧ a1 ≤ (l0.length : Int) ∧ l0.length + l2.length < 3518437208883 ∧ r = l0.take a1.toNat ++ l2 ++ l0.drop a1.toNat := by
 unfold impl_Item_57.f at h; by_cases h0 : 0 ≤ a1
 ·rw [if_pos h0] at h
  by_cases h1 : a1 ≤ (l0.length : Int)
  ·rw [if_pos h1, if_neg (by omega)] at h
   simp only [Option.bind_some, List.nil_append] at h; by_cases h2 : ([] : List (S57)).length + (l0.take a1.toNat).length < 3518437208883
   ·rw [if_pos h2] at h
    by_cases h3 : (l0.take a1.toNat).length + l2.length < 3518437208883
    ·rw [if_pos h3] at h
     by_cases h4 : (l0.take a1.toNat ++ l2).length + (l0.drop a1.toNat).length < 3518437208883
     ·rw [if_pos h4] at h
      have h5 : l0.length + l2.length < 3518437208883 := by
       simp only [List.length_append, List.length_take, List.length_drop] at h4; omega
      by_cases h6 : (l0.length : Int) = 0
      ·rw [if_pos h6] at h; obtain rfl := Option.some.inj h; obtain rfl : l0 = [] := List.eq_nil_of_length_eq_zero (by omega); exact ⟨h0, h1, h5, by simp⟩
      ·rw [if_neg h6] at h; obtain rfl := Option.some.inj h; exact ⟨h0, h1, h5, rfl⟩
     ·rw [if_neg h4] at h; cases h
    ·rw [if_neg h3] at h; cases h
   ·rw [if_neg h2] at h; cases h
  ·rw [if_neg h1] at h; cases h
 ·rw [if_neg h0] at h; cases h
set_option maxHeartbeats 8000000 in
set_option maxRecDepth 100000 in
theorem impl_Item_57.calls (P0_ : Nat → Prop) (u9000_ : Value) (l0 : List (S57)) (a1 : Int) (P2_ : Nat → Prop) (u9001_ : Value) (l2 : List (S57)) (r : List (S57)) (w0 w : World) (hB : Below w0.heap.size w0 w) (ho0 : Kd.R k57 57 w w0.heap.size P0_ u9000_ l0) (hp0_2 : ∀ k_, P0_ k_ → ¬ P2_ k_) (ho2 : Kd.R k57 57 w w0.heap.size P2_ u9001_ l2) (hp2_0 : ∀ k_, P2_ k_ → ¬ P0_ k_) (h : impl_Item_57.f l0 a1 l2 = some r) :
  Calls Try.prog 57 #[u9000_, .int .i64 a1, u9001_] w fun e w' => ∃ v0_ : Value, e = .returned (v0_) ∧ Kd.R k57 57 w' w0.heap.size (fun k_ => ((P0_ k_ ∨ P2_ k_) ∨ w.heap.size ≤ k_)) v0_ r ∧ Below w0.heap.size w0 w' ∧ Kept w w' (fun k_ => P0_ k_ ∨ P2_ k_) := by
 by_cases cm_ : 0 < l2.length
 ·obtain ⟨q1_, q2_, q3_, q4_⟩ := impl_Item_57.what l0 a1 l2 r h cm_
  obtain ⟨i_, rfl⟩ : ∃ i : Nat, a1 = i := ⟨a1.toNat, by omega⟩
  rw [Int.toNat_natCast] at q4_; rw [q4_]; exact impl_Item_57_.irows k57 rfl w0.heap.size u9000_ u9001_ l0 l2 i_ P0_ P2_ w0 w hB ho0 ho2 hp2_0 (by omega) cm_ (by omega) hB.size
 have cz_ : (l2.length : Int) = 0 := by omega
 have HO0 := Zz.mk (show Kd.R k57 57 w w0.heap.size (fun k_ => ((P0_ k_ ∨ P2_ k_) ∨ w.heap.size ≤ k_) ∧ some k_ ≠ (u9001_ : Value).ownBlock) u9000_ l0 from Kd.R_mono ho0 (fun k_ hk => ⟨(.inl (.inl hk)), fun e_ => hp0_2 k_ hk (ho2.1 k_ e_.symm)⟩)); have HO2 := Zz.mk (show Kd.R k57 57 w w0.heap.size (fun k_ => ((P0_ k_ ∨ P2_ k_) ∨ w.heap.size ≤ k_) ∧ some k_ ≠ (u9000_ : Value).ownBlock) u9001_ l2 from Kd.R_mono ho2 (fun k_ hk => ⟨(.inl (.inr hk)), fun e_ => hp2_0 k_ hk (ho0.1 k_ e_.symm)⟩)); have HK := Zz.mk (Kept.refl w (fun k_ => P0_ k_ ∨ P2_ k_)); have HW0 := Zz.mk hB.size; have HB := Zz.mk hB; clear hB; have H : (if 0 ≤ a1 then (if a1 ≤ (l0.length : Int) then (if (l2.length : Int) = 0 then (some l0) else ((some (([] : List (S57)) : List (S57))).bind fun y204 => ((some (l0.take (a1 : Int).toNat : List (S57))).bind fun y207 => (if y204.length + y207.length < 3518437208883 then ((some (y204 ++ y207 : List (S57))).bind fun y211 => (if y211.length + l2.length < 3518437208883 then ((some (y211 ++ l2 : List (S57))).bind fun y214 => ((some (l0.drop (a1 : Int).toNat : List (S57))).bind fun y217 => (if y214.length + y217.length < 3518437208883 then (if (l0.length : Int) = 0 then (some l2) else (some (y214 ++ y217))) else (none)))) else (none))) else (none))))) else (none)) else (none)) = some r := h; clear h; by_cases c4 : 0 ≤ a1
 ·rw [if_pos c4] at H
  have c4b0 := eq_true c4; have c4b1 : decide (0 ≤ a1) = true := decide_eq_true c4; clear c4; by_cases c5 : a1 ≤ (l0.length : Int)
  ·rw [if_pos c5] at H
   have c5b0 := eq_true c5; have c5b1 : decide (a1 ≤ (l0.length : Int)) = true := decide_eq_true c5; clear c5; obtain ⟨y200, hy200⟩ : ∃ y_ : List (S57), y_ = (l0.drop (a1 : Int).toNat) := ⟨_, rfl⟩
   replace H : (if (l2.length : Int) = 0 then (some l0) else ((some (([] : List (S57)) : List (S57))).bind fun y204 => ((some (l0.take (a1 : Int).toNat : List (S57))).bind fun y207 => (if y204.length + y207.length < 3518437208883 then ((some (y204 ++ y207 : List (S57))).bind fun y211 => (if y211.length + l2.length < 3518437208883 then ((some (y211 ++ l2 : List (S57))).bind fun y214 => ((some (l0.drop (a1 : Int).toNat : List (S57))).bind fun y217 => (if y214.length + y217.length < 3518437208883 then (if (l0.length : Int) = 0 then (some l2) else (some (y214 ++ y217))) else (none)))) else (none))) else (none))))) = some r := by first | (rw [hy200]; with_reducible exact H) | (replace H := (Option.bind_some _ _).symm.trans H; first | (rw [hy200]; with_reducible exact H) | with_reducible exact H) | with_reducible exact H | (rw [hy200]; exact H) | exact H
   have Ny200 := Zz.mk hy200; clear hy200; by_cases c6 : (l2.length : Int) = 0
   ·rw [if_pos c6] at H
    have c6b0 : ((l2.length : Int) == 0) = true := beq_iff_eq.mpr c6; have c6b1 : ((l2.length : Int) != 0) = false := bne_eq_false_iff_eq.mpr c6; clear c6; obtain rfl := Option.some.inj H; obtain ⟨Ao8, co8, eo8⟩ := Kd.R_slice HO0.out; subst eo8; have q7 : (a1 : Int) ≤ ((l0.length : Int) : Int) := of_decide_eq_true (by first | (with_reducible assumption) | assumption); obtain ⟨i07, hi07, _, hsz7, _⟩ := info_parts info57; have hroom7 : l0.length ≤ co8 := (Kd.R_reads' HO0.out).2.1; have hC7 : Kd.C k57 _ Ao8 l0.length l0 := (Kd.R_reads' HO0.out).2.2; have q07 : (0 : Int) ≤ (a1 : Int) := of_decide_eq_true (by first | (with_reducible assumption) | assumption); have hcut7 := cut_from (P := Try.prog) 47 57 .i64 Try.underlying47 hi07 5 hsz7 Ao8 l0.length co8 a1 q07 q7; have hr7 := Kd.C_drop (m := (a1 : Int).toNat) (c := co8) hC7 (by omega) hroom7; obtain ⟨A7, hA7⟩ : ∃ A1, A1 = (if co8 = (a1 : Int).toNat then Ao8 else (Ao8 : Option Addr).map (·.add ((a1 : Int).toNat * 5))) := ⟨_, rfl⟩
    obtain ⟨c7, hc7⟩ : ∃ c1, c1 = co8 - (a1 : Int).toNat := ⟨_, rfl⟩
    have hy7 : y200.length = l0.length - (a1 : Int).toNat := (by rw [Ny200.out, List.length_drop] <;> omega)
    rw [show (l0).drop (a1 : Int).toNat = y200 from Ny200.out.symm] at hr7; replace hr7 : Kd.C k57 _ A7 y200.length y200 := (by rw [hA7]; exact hr7)
    rw [← hy7, ← hA7, ← hc7] at hcut7; have HR203 := Zz.mk hr7; have HC203 := Zz.mk (show y200.length ≤ c7 from by rw [hy7, hc7]; exact Nat.sub_le_sub_right hroom7 _); clear hr7 hC7 hroom7 hi07 hsz7 hc7; have KY7 := Zz.mk hy7; have KA7 := Zz.mk hA7; clear hy7 hA7; have KL7 := Zz.mk (show (a1 : Int).toNat ≤ l0.length from by omega); replace q7 := eq_true q7; obtain ⟨Ao9, co9, eo9⟩ := Kd.R_slice HO2.out; subst eo9; go_enter Try.func57, Try.ntmps57; go_wp2
    go_ret
    exact ⟨_, by first | rfl | (simp [eN, eS] <;> rfl) | (simp [*, eN, eS] <;> rfl), by (with_reducible repeat (first | apply Kd.RA | apply Kd.RN | apply Kd.RD)); exact Kd.R_mono HO0.out (fun _ hk => hk.1), by repeat (first | (with_reducible first | exact HB.out | apply bwA | apply pwN | apply bw1) | exact HB.out), by repeat (first | (with_reducible first | exact HK.out | apply Kept.alloc | apply Kept.drewN | apply Kept.drew) | exact HK.out)⟩
   ·exact absurd cz_ c6
  ·rw [if_neg c5] at H; exact absurd H (by simp)
 ·rw [if_neg c4] at H; exact absurd H (by simp)

/-! ### cmp_Or_int: function 73 -/
def cmp_Or_int.l0 : Nat → Int → List Int → Int → Int → Option (Int)
 | 0, _, _, _, _ => none
 | k + 1, x3, x6, x7, x8 => if x8 < x7 then (if 0 ≤ x8 then (if x8 < (x6.length : Int) then (if (rd x6 x8) = x3 then (cmp_Or_int.l0 k x3 x6 x7 (wrap64 (x8 + 1))) else (some (rd x6 x8))) else (none)) else (none)) else (some x3)
def cmp_Or_int.f (k : Nat) (l0 : List Int) : Option (Int) := cmp_Or_int.l0 k 0 l0 (l0.length : Int) 0
theorem cmp_Or_int.mono_l : ∀ k, (∀ y0 y1 y2 y3, LeO (cmp_Or_int.l0 k y0 y1 y2 y3) (cmp_Or_int.l0 (k + 1) y0 y1 y2 y3))
 | 0 => fun _ _ _ _ r h => by simp [cmp_Or_int.l0] at h
 | k + 1 => by
  have ih0 := cmp_Or_int.mono_l k
  ·intro y0 y1 y2 y3
   unfold cmp_Or_int.l0; repeat' first
   | (with_reducible exact ih0 _ _ _ _)
   | (with_reducible exact LeO.refl _)
   | (with_reducible exact LeO.none _)
   | (with_reducible refine LeO.ite ?_ ?_)
   | (with_reducible refine LeO.bind ?_ (fun _ => ?_))
   | exact ih0 _ _ _ _
   | exact LeO.none _
   | refine LeO.ite ?_ ?_
   | refine LeO.bind ?_ (fun _ => ?_)
theorem cmp_Or_int.mono : ∀ a0 k, LeO (cmp_Or_int.f k a0) (cmp_Or_int.f (k + 1) a0) := by
 intro a0 k; have ih0 := cmp_Or_int.mono_l k; unfold cmp_Or_int.f
 repeat' first
   | (with_reducible exact ih0 _ _ _ _)
   | (with_reducible exact LeO.refl _)
   | (with_reducible exact LeO.none _)
   | (with_reducible refine LeO.ite ?_ ?_)
   | (with_reducible refine LeO.bind ?_ (fun _ => ?_))
   | exact ih0 _ _ _ _
   | exact LeO.none _
   | refine LeO.ite ?_ ?_
   | refine LeO.bind ?_ (fun _ => ?_)
set_option maxHeartbeats 8000000 in
set_option maxRecDepth 100000 in
theorem cmp_Or_int.calls (k : Nat) (A0 : Option Addr) (c0 : Nat) (l0 : List Int) (r : Int) (w : World) (hr0 : Kd.C (Kd.int .i64) w A0 l0.length l0) (hc0 : l0.length ≤ c0) (h : cmp_Or_int.f k l0 = some r) :
  Calls Try.prog 73 #[.slice A0 l0.length c0] w fun e w' => e = .returned (.int .i64 r) ∧ Drawn0 w w' := by
 have HR0 := Zz.mk hr0; have HC0 := Zz.mk hc0; clear hr0 hc0; have H : (cmp_Or_int.l0 k 0 l0 (l0.length : Int) 0) = some r := h; clear h; have H' := Zz.mk H; clear H; go_enter Try.func73, Try.ntmps73; go_wp2
 go_loopg [8] k (fun kq v8 w' => ∃ (x8_1 : Int), v8 = .int .i64 x8_1 ∧ Zz (cmp_Or_int.l0 kq 0 l0 (l0.length : Int) x8_1 = some r) ∧ Zz (kq ≤ k) ∧ Drawn0 w w')
 case atStart => exact ⟨(0), (by first | rfl | (simp; done) | (simp [*]; done)), H', ⟨Nat.le_refl _⟩, by repeat (first | exact Drawn0.refl _ | apply Drawn0.step)⟩
 case round =>
  clear H'; obtain ⟨x8_1, rfl, HA, HK1, ⟨m1, rfl⟩⟩ := hrel; cases gk with
  | zero => exact absurd HA.out (by simp [cmp_Or_int.l0])
  | succ k1 =>
   have H := HA.out; clear HA; simp only [cmp_Or_int.l0] at H; by_cases c2 : x8_1 < (l0.length : Int)
   ·rw [if_pos c2] at H
    have c2b0 : decide (x8_1 < (l0.length : Int)) = true := decide_eq_true c2; clear c2; by_cases c3 : 0 ≤ x8_1
    ·rw [if_pos c3] at H
     have c3b0 : decide (0 ≤ x8_1) = true := decide_eq_true c3; clear c3; by_cases c4 : x8_1 < (l0.length : Int)
     ·rw [if_pos c4] at H
      have c4b0 : decide (x8_1 < (l0.length : Int)) = true := decide_eq_true c4; clear c4; by_cases c5 : (rd l0 x8_1) = 0
      ·rw [if_pos c5] at H
       have c5b0 : ((rd l0 x8_1) == 0) = true := beq_iff_eq.mpr c5; have c5b1 : ((rd l0 x8_1) != 0) = false := bne_eq_false_iff_eq.mpr c5; clear c5; have H' := Zz.mk H; clear H; have p224 : 0 ≤ (x8_1 : Int) := of_decide_eq_true (by first | (with_reducible assumption) | assumption); have q224 : x8_1 < (l0.length : Int) := of_decide_eq_true (by first | (with_reducible assumption) | assumption); obtain ⟨ad224, e224, hx224_0⟩ := Kd.at_int HR0.out x8_1 p224 q224; cases e224
       replace p224 := eq_true p224; replace q224 := eq_true q224; go_wp2
       go_roundg k1
       case measure => have := HK1.out; omega
       case rel => exact ⟨(wrap64 (x8_1 + 1)), (by first | rfl | (simp; done) | (simp [*]; done)), H', ⟨by have := HK1.out; omega⟩, by repeat (first | exact Drawn0.refl _ | apply Drawn0.step)⟩
      ·rw [if_neg c5] at H
       have c5b0 : ((rd l0 x8_1) == 0) = false := beq_eq_false_iff_ne.mpr c5; have c5b1 : ((rd l0 x8_1) != 0) = true := bne_iff_ne.mpr c5; obtain rfl := Option.some.inj H; have p224 : 0 ≤ (x8_1 : Int) := of_decide_eq_true (by first | (with_reducible assumption) | assumption); have q224 : x8_1 < (l0.length : Int) := of_decide_eq_true (by first | (with_reducible assumption) | assumption); obtain ⟨ad224, e224, hx224_0⟩ := Kd.at_int HR0.out x8_1 p224 q224; cases e224
       replace p224 := eq_true p224; replace q224 := eq_true q224; go_wp2
       go_ret
       exact ⟨by first | rfl | (simp; done) | (simp [*]; done), by repeat (first | exact Drawn0.refl _ | apply Drawn0.step)⟩
     ·rw [if_neg c4] at H; exact absurd H (by simp)
    ·rw [if_neg c3] at H; exact absurd H (by simp)
   ·rw [if_neg c2] at H
    have c2b0 : decide (x8_1 < (l0.length : Int)) = false := decide_eq_false c2; clear c2; obtain rfl := Option.some.inj H; go_wp2
    go_ret
    exact ⟨by first | rfl | (simp; done) | (simp [*]; done), by repeat (first | exact Drawn0.refl _ | apply Drawn0.step)⟩

end Go.Proofs.Ytjaihhgkcdnhnaa.PFnCastNew
