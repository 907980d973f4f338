/- Functions of the program as plain functions, and that each call does what they tell. Conditions: none. -/
import Derived.Test.YtjaihhgkcdnhnaaPFnCastNewx0
import Derived.Test.YtjaihhgkcdnhnaaPFnCastNewx5
import Derived.Test.YtjaihhgkcdnhnaaPFnCastNewx7
import Derived.Test.YtjaihhgkcdnhnaaPFnCastNewx8
import Derived.Test.YtjaihhgkcdnhnaaPFnCastNewx9
import Derived.Test.YtjaihhgkcdnhnaaPFnCastNewx10
namespace Go.Proofs.Ytjaihhgkcdnhnaa.PFnCastNew
open Go.RowKit Go.Proofs.YtjaihhgkcdnhnaaW.PrintWords Go.Proofs.YtjaihhgkcdnhnaaW.PrintLast Go.Proofs.YtjaihhgkcdnhnaaW.PrintMore
set_option linter.unusedVariables false
set_option linter.unusedSimpArgs false

/-! ### impl_CastPut: function 32 -/
def impl_CastPut.j0 : Nat → List (S57) → Bool → Int → Int → Int → Bool → Option ((List (S57)))
 | 0, _, _, _, _, _, _ => none
 | k + 1, x0, x15, x235000, x235001, x235002, x235003 => if x15 = true then (some ([] : List (S57))) else ((impl_Item_55.f x0).bind fun t237 => ((impl_facts.f k t237).bind fun t240 => ((impl_find.f k t240 x235000).bind fun bt243 => (if bt243.2 = true then (if 0 ≤ bt243.1 then (if bt243.1 < (t237.length : Int) then ((impl_Fact_compare.f k x235000 x235001 x235002 x235003 ((rd_T57 t237 bt243.1).f0.f0) ((rd_T57 t237 bt243.1).f0.f1) ((rd_T57 t237 bt243.1).f0.f2) ((rd_T57 t237 bt243.1).f0.f3)).bind fun t246 => (if t246 > 0 then (some (t237.set (bt243.1 : Int).toNat (⟨(⟨x235000, x235001, x235002, x235003⟩ : S30), 4⟩ : S57))) else (some t237))) else (none)) else (none)) else ((impl_Item_57.f t237 bt243.1 (([(⟨(⟨x235000, x235001, x235002, x235003⟩ : S30), 4⟩ : S57)] : List (S57)))).bind fun t251 => (some t251))))))
def impl_CastPut.f (k : Nat) (l0 : List (S57)) (a1_0 : Int) (a1_1 : Int) (a1_2 : Int) (a1_3 : Bool) : Option ((List (S57))) := (impl_CastOk.f k l0).bind fun t235 => (if t235 = true then ((impl_FactOk.f a1_0 a1_1 a1_2 a1_3).bind fun t236 => (impl_CastPut.j0 k l0 (!t236) a1_0 a1_1 a1_2 a1_3)) else (impl_CastPut.j0 k l0 true a1_0 a1_1 a1_2 a1_3))
theorem impl_CastPut.mono_l : ∀ k, (∀ y0 y1 y2 y3 y4 y5, LeO (impl_CastPut.j0 k y0 y1 y2 y3 y4 y5) (impl_CastPut.j0 (k + 1) y0 y1 y2 y3 y4 y5))
 | 0 => fun _ _ _ _ _ _ r h => by simp [impl_CastPut.j0] at h
 | k + 1 => by
  have ih0 := impl_CastPut.mono_l k
  ·intro y0 y1 y2 y3 y4 y5
   unfold impl_CastPut.j0; repeat' first
   | (with_reducible exact ih0 _ _ _ _ _ _)
   | (with_reducible exact impl_CastOk.mono _ _)
   | (with_reducible exact impl_Fact_compare.mono _ _ _ _ _ _ _ _ _)
   | (with_reducible exact impl_facts.mono _ _)
   | (with_reducible exact impl_find.mono _ _ _)
   | (with_reducible exact LeO.refl _)
   | (with_reducible exact LeO.none _)
   | (with_reducible refine LeO.ite ?_ ?_)
   | (with_reducible refine LeO.bind ?_ (fun _ => ?_))
   | exact ih0 _ _ _ _ _ _
   | exact impl_CastOk.mono _ _
   | exact impl_Fact_compare.mono _ _ _ _ _ _ _ _ _
   | exact impl_facts.mono _ _
   | exact impl_find.mono _ _ _
   | exact LeO.none _
   | refine LeO.ite ?_ ?_
   | refine LeO.bind ?_ (fun _ => ?_)
theorem impl_CastPut.mono : ∀ a0 a1 a2 a3 a4 k, LeO (impl_CastPut.f k a0 a1 a2 a3 a4) (impl_CastPut.f (k + 1) a0 a1 a2 a3 a4) := by
 intro a0 a1 a2 a3 a4 k; have ih0 := impl_CastPut.mono_l k; unfold impl_CastPut.f
 repeat' first
   | (with_reducible exact ih0 _ _ _ _ _ _)
   | (with_reducible exact impl_CastOk.mono _ _)
   | (with_reducible exact impl_Fact_compare.mono _ _ _ _ _ _ _ _ _)
   | (with_reducible exact impl_facts.mono _ _)
   | (with_reducible exact impl_find.mono _ _ _)
   | (with_reducible exact LeO.refl _)
   | (with_reducible exact LeO.none _)
   | (with_reducible refine LeO.ite ?_ ?_)
   | (with_reducible refine LeO.bind ?_ (fun _ => ?_))
   | exact ih0 _ _ _ _ _ _
   | exact impl_CastOk.mono _ _
   | exact impl_Fact_compare.mono _ _ _ _ _ _ _ _ _
   | exact impl_facts.mono _ _
   | exact impl_find.mono _ _ _
   | exact LeO.none _
   | refine LeO.ite ?_ ?_
   | refine LeO.bind ?_ (fun _ => ?_)
def impl_CastPut.T4 : Bool × List (List Nat × List Nat) := (true, [([], []), ([0], [0]), ([], []), ([2], [2]), ([1, 3, 1], [1, 3]), ([4], [4]), ([5], [5]), ([5], [5]), ([6, 4, 0, 1, 2, 3, 4, 5, 6], [6]), ([7, 8, 0, 1, 2, 3, 4, 5, 6, 7, 8], [7])])
def impl_CastPut.B4 : List Nat := [0, 1, 0, 4, 15, 31, 63, 63, 127, 511]
theorem impl_CastPut.tab4 : rtab .any (opsOf Try.f32 4) = impl_CastPut.T4 := by kernel_rfl
theorem impl_CastPut.bits4 : waitsOk impl_CastPut.T4.2 impl_CastPut.B4 = true := by kernel_rfl
def impl_CastPut.T7 : Bool × List (List Nat × List Nat) := (true, [([], []), ([], []), ([], []), ([1, 2], [1, 2]), ([3], [3]), ([4], [4]), ([0, 5], [0, 5]), ([6], [6]), ([7, 6], [7])])
def impl_CastPut.B7 : List Nat := [0, 0, 0, 6, 14, 30, 63, 127, 255]
theorem impl_CastPut.tab7 : rtab .any (opsOf Try.f32 7) = impl_CastPut.T7 := by kernel_rfl
theorem impl_CastPut.bits7 : waitsOk impl_CastPut.T7.2 impl_CastPut.B7 = true := by kernel_rfl
set_option maxHeartbeats 8000000 in
set_option maxRecDepth 100000 in
theorem impl_CastPut.calls (k : Nat) (A0 : Option Addr) (c0 : Nat) (l0 : List (S57)) (a1_0 : Int) (a1_1 : Int) (a1_2 : Int) (a1_3 : Bool) (r : List (S57)) (w : World) (hr0 : Kd.C k57 w A0 l0.length l0) (hc0 : l0.length ≤ c0) (h : impl_CastPut.f k l0 a1_0 a1_1 a1_2 a1_3 = some r) :
  Calls Try.prog 32 #[.slice A0 l0.length c0, .agg #[.int .i64 a1_0, .int .i64 a1_1, .int .i64 a1_2, .bool a1_3]] w fun e w' => ∃ v0_ : Value, e = .returned (v0_) ∧ Kd.R k57 57 w' w.heap.size (fun _ => True) v0_ r ∧ Below w.heap.size w w' := by
 have hu30 := Try.underlying30; have hu57 := Try.underlying57; have HR0 := Zz.mk hr0; have HC0 := Zz.mk hc0; clear hr0 hc0; have HB := Zz.mk (Below.refl w.heap.size w); have H : ((impl_CastOk.f k l0).bind fun t235 => (if t235 = true then ((impl_FactOk.f a1_0 a1_1 a1_2 a1_3).bind fun t236 => (impl_CastPut.j0 k l0 (!t236) a1_0 a1_1 a1_2 a1_3)) else (impl_CastPut.j0 k l0 true a1_0 a1_1 a1_2 a1_3))) = some r := h; clear h; have HC3 := Zz.mk H; clear H; go_enter Try.func32, Try.ntmps32; go_upto_region 1 with (first | ((with_reducible refine gate_dst (N := 3) rfl ?_); refine box_event ?hg (N := 3) ?hd (cs := #[.int .i64 a1_0, .int .i64 a1_1, .int .i64 a1_2, .bool a1_3]) (t := 30) ?hr ?_; (case hd => rfl); (case hg => rfl); (case hr => first | (go_simp; done) | (go_simp; rfl)); intro gb234 hg w4 hbox hb; have n0_ := Zz.mk (bwP (by repeat (first | (with_reducible first | exact HB.out | apply bwA | apply pwN | apply bw1) | exact HB.out)) hb); have n1_ := Zz.mk (hbox); have n2_ := Zz.mk ((by rw [hg]; exact (bwZ (by repeat (first | (with_reducible first | exact HB.out | apply bwA | apply pwN | apply bw1) | exact HB.out))) : w.heap.size ≤ gb234)); have n3_ := Zz.mk ((by rw [hg]; exact (bwZ (by repeat (first | (with_reducible first | exact HB.out | apply bwA | apply pwN | apply bw1) | exact HB.out))) : w.heap.size ≤ gb234)); clear HB; have HB := n0_; have BK234 := n1_; have GW234 := n2_; have GE234 := n3_; clear n0_ n1_ n2_ n3_; clear hb hbox hg))
 (try simp only [Act.put, List.setIfInBounds_toArray, List.set_cons_zero, List.set_cons_succ])
 go_cut [15] (fun v15 wc => ∃ (kq : Nat) (x15_2 : Bool), v15 = .bool x15_2 ∧ Zz (impl_CastPut.j0 kq l0 x15_2 a1_0 a1_1 a1_2 a1_3 = some r) ∧ Zz (kq ≤ k) ∧ Zz (wc.heap[gb234]? = some (.cells #[.int .i64 a1_0, .int .i64 a1_1, .int .i64 a1_2, .bool a1_3] 30 (0, 0))) ∧ Zz (Below w.heap.size w wc))
 case first =>
  have H := HC3.out; clear HC3; replace H := Option.bind_eq_some_iff.mp H; obtain ⟨t235, A50, H⟩ := H; replace H : (if t235 = true then ((impl_FactOk.f a1_0 a1_1 a1_2 a1_3).bind fun t236 => (impl_CastPut.j0 k l0 (!t236) a1_0 a1_1 a1_2 a1_3)) else (impl_CastPut.j0 k l0 true a1_0 a1_1 a1_2 a1_3)) = some r := H; have A5 := Zz.mk A50; clear A50; by_cases c6 : t235 = true
  ·subst c6
   have H1 : ((impl_FactOk.f a1_0 a1_1 a1_2 a1_3).bind fun t236 => (impl_CastPut.j0 k l0 (!t236) a1_0 a1_1 a1_2 a1_3)) = some r := by rw [if_pos rfl] at H; exact H
   clear H; have H := H1; clear H1; replace H := Option.bind_eq_some_iff.mp H; obtain ⟨t236, A70, H⟩ := H; replace H : (impl_CastPut.j0 k l0 (!t236) a1_0 a1_1 a1_2 a1_3) = some r := H; have A7 := Zz.mk A70; clear A70; have H' := Zz.mk H; clear H; go_wp2_with (first | ((with_reducible refine gate_callee (f := 29) rfl ?_); refine goesL_ (some 9) rfl rfl Try.func29 (by kernel_rfl) rfl #[.slice A0 l0.length c0] rfl (by (try simp only [List.map_toArray, List.map_cons, List.map_nil]); first | done | rfl | (simp only [List.length_drop, List.length_take]; rfl)) ?_; (with_reducible refine (impl_CastOk.calls k _ _ l0 true _ ?side1 ?side2 A5.out).mono ?_); (case side1 => repeat (first | exact (Kd.C_below HR0.out HB.out) | (with_reducible refine Kd.CA ?_ _) | (with_reducible refine Kd.CN ?_ _) | (with_reducible refine Kd.CD ?_))); (case side2 => exact HC0.out); rintro e w8 ⟨rfl, hb⟩; refine ⟨_, rfl, ?_⟩; have n0_ := Zz.mk (bkB (g := gb234) (o := .cells #[.int .i64 a1_0, .int .i64 a1_1, .int .i64 a1_2, .bool a1_3] 30 (0, 0)) (by (with_reducible repeat (first | refine bkN ?_ _ | refine bkD ?_ | refine bkA ?_ _)); exact BK234.out) hb); have n1_ := Zz.mk (bwP (by repeat (first | (with_reducible first | exact HB.out | apply bwA | apply pwN | apply bw1 | refine bwS ?_ GE234.out) | exact HB.out)) hb); clear BK234; clear HB; have BK234 := n0_; have HB := n1_; clear n0_ n1_; (try clear hb); (try clear A5); have hcz9_0 : w8.cell? ⟨gb234, 0, none⟩ = some (.int .i64 a1_0) := (bkC BK234.out 0).trans rfl; have hcz9_1 : w8.cell? ⟨gb234, 1, none⟩ = some (.int .i64 a1_1) := (bkC BK234.out 1).trans rfl; have hcz9_2 : w8.cell? ⟨gb234, 2, none⟩ = some (.int .i64 a1_2) := (bkC BK234.out 2).trans rfl; have hcz9_3 : w8.cell? ⟨gb234, 3, none⟩ = some (.bool a1_3) := (bkC BK234.out 3).trans rfl; have hfz9_0 := bkF BK234.out 0; have hfz9_1 := bkF BK234.out 1; have hfz9_2 := bkF BK234.out 2; have hfz9_3 := bkF BK234.out 3) | (go_at_call 40; (with_reducible refine (impl_FactOk.calls a1_0 a1_1 a1_2 a1_3 t236 _ A7.out).mono ?_); rintro e w10 ⟨rfl, hb⟩; have n0_ := Zz.mk (bkB (g := gb234) (o := .cells #[.int .i64 a1_0, .int .i64 a1_1, .int .i64 a1_2, .bool a1_3] 30 (0, 0)) (by (with_reducible repeat (first | refine bkN ?_ _ | refine bkD ?_ | refine bkA ?_ _)); exact BK234.out) hb); have n1_ := Zz.mk (bwP (by repeat (first | (with_reducible first | exact HB.out | apply bwA | apply pwN | apply bw1 | refine bwS ?_ GE234.out) | exact HB.out)) hb); clear BK234; clear HB; have BK234 := n0_; have HB := n1_; clear n0_ n1_; (try clear hb); (try clear A7)))
   go_meet
   case rel => exact ⟨_, (!t236), (by first | rfl | (simp; done) | (simp [*]; done)), H', ⟨by first | omega | exact Nat.le_refl _⟩, ⟨by (with_reducible repeat (first | refine bkN ?_ _ | refine bkD ?_ | refine bkA ?_ _)); exact BK234.out⟩, ⟨by repeat (first | (with_reducible first | exact HB.out | apply bwA | apply pwN | apply bw1 | refine bwS ?_ GE234.out) | exact HB.out)⟩⟩
  ·replace c6 := Bool.eq_false_iff.mpr c6
   subst c6; have H1 : (impl_CastPut.j0 k l0 true a1_0 a1_1 a1_2 a1_3) = some r := by rw [if_neg (show ¬ (false = true) by decide)] at H; exact H
   clear H; have H := H1; clear H1; have H' := Zz.mk H; clear H; go_wp2_with (first | ((with_reducible refine gate_callee (f := 29) rfl ?_); refine goesL_ (some 9) rfl rfl Try.func29 (by kernel_rfl) rfl #[.slice A0 l0.length c0] rfl (by (try simp only [List.map_toArray, List.map_cons, List.map_nil]); first | done | rfl | (simp only [List.length_drop, List.length_take]; rfl)) ?_; (with_reducible refine (impl_CastOk.calls k _ _ l0 false _ ?side1 ?side2 A5.out).mono ?_); (case side1 => repeat (first | exact (Kd.C_below HR0.out HB.out) | (with_reducible refine Kd.CA ?_ _) | (with_reducible refine Kd.CN ?_ _) | (with_reducible refine Kd.CD ?_))); (case side2 => exact HC0.out); rintro e w11 ⟨rfl, hb⟩; refine ⟨_, rfl, ?_⟩; have n0_ := Zz.mk (bkB (g := gb234) (o := .cells #[.int .i64 a1_0, .int .i64 a1_1, .int .i64 a1_2, .bool a1_3] 30 (0, 0)) (by (with_reducible repeat (first | refine bkN ?_ _ | refine bkD ?_ | refine bkA ?_ _)); exact BK234.out) hb); have n1_ := Zz.mk (bwP (by repeat (first | (with_reducible first | exact HB.out | apply bwA | apply pwN | apply bw1 | refine bwS ?_ GE234.out) | exact HB.out)) hb); clear BK234; clear HB; have BK234 := n0_; have HB := n1_; clear n0_ n1_; (try clear hb); (try clear A5)))
   go_meet
   case rel => exact ⟨_, (true), (by first | rfl | (simp; done) | (simp [*]; done)), H', ⟨by first | omega | exact Nat.le_refl _⟩, ⟨by (with_reducible repeat (first | refine bkN ?_ _ | refine bkD ?_ | refine bkA ?_ _)); exact BK234.out⟩, ⟨by repeat (first | (with_reducible first | exact HB.out | apply bwA | apply pwN | apply bw1 | refine bwS ?_ GE234.out) | exact HB.out)⟩⟩
 case rest =>
  clear HC3; try clear c2
  try clear p2
  try clear c3
  try clear c6
  try clear hcz9_0
  try clear hcz9_1
  try clear hcz9_2
  try clear hcz9_3
  try clear hfz9_0
  try clear hfz9_1
  try clear hfz9_2
  try clear hfz9_3
  obtain ⟨kq, x15_2, rfl, HA, HJ2, BK234, HB⟩ := hcut; cases kq with
  | zero => exact absurd HA.out (by simp [impl_CastPut.j0])
  | succ kj2 =>
   have H := HA.out; clear HA; simp only [impl_CastPut.j0] at H; by_cases c12 : x15_2 = true
   ·subst c12
    have H1 : (some ([] : List (S57))) = some r := by rw [if_pos rfl] at H; exact H
    clear H; have H := H1; clear H1; obtain rfl := Option.some.inj H; go_wp2
    go_ret
    exact ⟨_, by first | rfl | (simp [eN, eS] <;> rfl) | (simp [*, eN, eS] <;> rfl), by first | exact Kd.R_nil _ _ _ _ _ | exact Kd.N_nil _ _ _ _ _ | exact Kd.V_nil _ _ _ _ _ | exact Kd.Q_nil _ _ _ _ _ | exact Kd.S_nil _ _ _ _ _, by repeat (first | (with_reducible first | exact HB.out | apply bwA | apply pwN | apply bw1 | refine bwS ?_ GE234.out) | exact HB.out)⟩
   ·replace c12 := Bool.eq_false_iff.mpr c12
    subst c12; have H1 : ((impl_Item_55.f l0).bind fun t237 => ((impl_facts.f kj2 t237).bind fun t240 => ((impl_find.f kj2 t240 a1_0).bind fun bt243 => (if bt243.2 = true then (if 0 ≤ bt243.1 then (if bt243.1 < (t237.length : Int) then ((impl_Fact_compare.f kj2 a1_0 a1_1 a1_2 a1_3 ((rd_T57 t237 bt243.1).f0.f0) ((rd_T57 t237 bt243.1).f0.f1) ((rd_T57 t237 bt243.1).f0.f2) ((rd_T57 t237 bt243.1).f0.f3)).bind fun t246 => (if t246 > 0 then (some (t237.set (bt243.1 : Int).toNat (⟨(⟨a1_0, a1_1, a1_2, a1_3⟩ : S30), 4⟩ : S57))) else (some t237))) else (none)) else (none)) else ((impl_Item_57.f t237 bt243.1 (([(⟨(⟨a1_0, a1_1, a1_2, a1_3⟩ : S30), 4⟩ : S57)] : List (S57)))).bind fun t251 => (some t251)))))) = some r := by rw [if_neg (show ¬ (false = true) by decide)] at H; exact H
    clear H; have H := H1; clear H1; replace H := Option.bind_eq_some_iff.mp H; obtain ⟨t237, A130, H⟩ := H; replace H : ((impl_facts.f kj2 t237).bind fun t240 => ((impl_find.f kj2 t240 a1_0).bind fun bt243 => (if bt243.2 = true then (if 0 ≤ bt243.1 then (if bt243.1 < (t237.length : Int) then ((impl_Fact_compare.f kj2 a1_0 a1_1 a1_2 a1_3 ((rd_T57 t237 bt243.1).f0.f0) ((rd_T57 t237 bt243.1).f0.f1) ((rd_T57 t237 bt243.1).f0.f2) ((rd_T57 t237 bt243.1).f0.f3)).bind fun t246 => (if t246 > 0 then (some (t237.set (bt243.1 : Int).toNat (⟨(⟨a1_0, a1_1, a1_2, a1_3⟩ : S30), 4⟩ : S57))) else (some t237))) else (none)) else (none)) else ((impl_Item_57.f t237 bt243.1 (([(⟨(⟨a1_0, a1_1, a1_2, a1_3⟩ : S30), 4⟩ : S57)] : List (S57)))).bind fun t251 => (some t251))))) = some r := H; have A13 := Zz.mk A130; clear A130; replace H := Option.bind_eq_some_iff.mp H; obtain ⟨t240, A140, H⟩ := H; replace H : ((impl_find.f kj2 t240 a1_0).bind fun bt243 => (if bt243.2 = true then (if 0 ≤ bt243.1 then (if bt243.1 < (t237.length : Int) then ((impl_Fact_compare.f kj2 a1_0 a1_1 a1_2 a1_3 ((rd_T57 t237 bt243.1).f0.f0) ((rd_T57 t237 bt243.1).f0.f1) ((rd_T57 t237 bt243.1).f0.f2) ((rd_T57 t237 bt243.1).f0.f3)).bind fun t246 => (if t246 > 0 then (some (t237.set (bt243.1 : Int).toNat (⟨(⟨a1_0, a1_1, a1_2, a1_3⟩ : S30), 4⟩ : S57))) else (some t237))) else (none)) else (none)) else ((impl_Item_57.f t237 bt243.1 (([(⟨(⟨a1_0, a1_1, a1_2, a1_3⟩ : S30), 4⟩ : S57)] : List (S57)))).bind fun t251 => (some t251)))) = some r := H; have A14 := Zz.mk A140; clear A140; replace H := Option.bind_eq_some_iff.mp H; obtain ⟨⟨t243, t244⟩, A150, H⟩ := H; replace H : (if t244 = true then (if 0 ≤ t243 then (if t243 < (t237.length : Int) then ((impl_Fact_compare.f kj2 a1_0 a1_1 a1_2 a1_3 ((rd_T57 t237 t243).f0.f0) ((rd_T57 t237 t243).f0.f1) ((rd_T57 t237 t243).f0.f2) ((rd_T57 t237 t243).f0.f3)).bind fun t246 => (if t246 > 0 then (some (t237.set (t243 : Int).toNat (⟨(⟨a1_0, a1_1, a1_2, a1_3⟩ : S30), 4⟩ : S57))) else (some t237))) else (none)) else (none)) else ((impl_Item_57.f t237 t243 (([(⟨(⟨a1_0, a1_1, a1_2, a1_3⟩ : S30), 4⟩ : S57)] : List (S57)))).bind fun t251 => (some t251))) = some r := H; have A15 := Zz.mk A150; clear A150; by_cases c16 : t244 = true
    ·subst c16
     have H1 : (if 0 ≤ t243 then (if t243 < (t237.length : Int) then ((impl_Fact_compare.f kj2 a1_0 a1_1 a1_2 a1_3 ((rd_T57 t237 t243).f0.f0) ((rd_T57 t237 t243).f0.f1) ((rd_T57 t237 t243).f0.f2) ((rd_T57 t237 t243).f0.f3)).bind fun t246 => (if t246 > 0 then (some (t237.set (t243 : Int).toNat (⟨(⟨a1_0, a1_1, a1_2, a1_3⟩ : S30), 4⟩ : S57))) else (some t237))) else (none)) else (none)) = some r := by rw [if_pos rfl] at H; exact H
     clear H; have H := H1; clear H1; by_cases c17 : 0 ≤ t243
     ·rw [if_pos c17] at H
      have c17b0 : decide (0 ≤ t243) = true := decide_eq_true c17; clear c17; by_cases c18 : t243 < (t237.length : Int)
      ·rw [if_pos c18] at H
       have c18b0 : decide (t243 < (t237.length : Int)) = true := decide_eq_true c18; clear c18; replace H := Option.bind_eq_some_iff.mp H; obtain ⟨t246, A190, H⟩ := H; replace H : (if t246 > 0 then (some (t237.set (t243 : Int).toNat (⟨(⟨a1_0, a1_1, a1_2, a1_3⟩ : S30), 4⟩ : S57))) else (some t237)) = some r := H; have A19 := Zz.mk A190; clear A190; by_cases c20 : t246 > 0
       ·rw [if_pos c20] at H
        have c20b0 : decide (0 < t246) = true := decide_eq_true c20; clear c20; obtain ⟨y247, hy247⟩ : ∃ y_ : List (S57), y_ = (t237.set (t243 : Int).toNat (⟨(⟨a1_0, a1_1, a1_2, a1_3⟩ : S30), 4⟩ : S57)) := ⟨_, rfl⟩
        replace H : (some y247) = some r := by first | (rw [hy247]; with_reducible exact H) | (replace H := (Option.bind_some _ _).symm.trans H; first | (rw [hy247]; with_reducible exact H) | with_reducible exact H) | with_reducible exact H | (rw [hy247]; exact H) | exact H
        have Ny247 := Zz.mk hy247; clear hy247; obtain rfl := Option.some.inj H; try go_wp2_with (first | ((with_reducible refine gate_callee (f := 55) rfl ?_); refine goesL_ (some 17) rfl rfl Try.func55 (by kernel_rfl) rfl #[.slice A0 l0.length c0] rfl (by (try simp only [List.map_toArray, List.map_cons, List.map_nil]); first | done | rfl | (simp only [List.length_drop, List.length_take]; rfl)) ?_; (with_reducible refine (impl_Item_55.calls _ _ l0 t237 _ ?side1 ?side2 A13.out).mono ?_); (case side1 => repeat (first | exact (Kd.C_below HR0.out HB.out) | (with_reducible refine Kd.CA ?_ _) | (with_reducible refine Kd.CN ?_ _) | (with_reducible refine Kd.CD ?_))); (case side2 => exact HC0.out); rintro e w22 ⟨v238, rfl, ho0, hb⟩; refine ⟨_, rfl, ?_⟩; have n0_ := Zz.mk (Kd.R_lower ho0 (bwZ (by repeat (first | (with_reducible first | exact HB.out | apply bwA | apply pwN | apply bw1 | refine bwS ?_ GE234.out) | exact HB.out)))); have n1_ := Zz.mk (bkB (g := gb234) (o := .cells #[.int .i64 a1_0, .int .i64 a1_1, .int .i64 a1_2, .bool a1_3] 30 (0, 0)) (by (with_reducible repeat (first | refine bkN ?_ _ | refine bkD ?_ | refine bkA ?_ _)); exact BK234.out) hb); have n2_ := Zz.mk (bwP (by repeat (first | (with_reducible first | exact HB.out | apply bwA | apply pwN | apply bw1 | refine bwS ?_ GE234.out) | exact HB.out)) hb); clear BK234; clear HB; have HO239 := n0_; have BK234 := n1_; have HB := n2_; clear n0_ n1_ n2_; (try clear hb); (try clear ho0); (try clear A13)))
        have n0_ := Zz.mk (Kd.RD HO239.out); have n1_ := Zz.mk (bkD BK234.out); have n2_ := Zz.mk (bw1 HB.out); clear HO239; clear BK234; clear HB; have HO239 := n0_; have BK234 := n1_; have HB := n2_; clear n0_ n1_ n2_; obtain ⟨Ao24, co24, eo24⟩ := Kd.R_slice HO239.out; (first | subst eo24 | (injection eo24 with f1_ f2_ f3_; have f4_ := f1_.symm; have f5_ := f3_.symm; clear f1_ f2_ f3_; subst f4_; subst f5_))
        refine start_ (n := 10) (S := fun w' => w'.cell? ⟨gb234, 0, none⟩ = some (.int .i64 a1_0) ∧ w'.cell? ⟨gb234, 1, none⟩ = some (.int .i64 a1_1) ∧ w'.cell? ⟨gb234, 2, none⟩ = some (.int .i64 a1_2) ∧ w'.cell? ⟨gb234, 3, none⟩ = some (.bool a1_3)) (ds := []) #[false, false, false, false, false, false, false, false, false, false] (by kernel_rfl) rfl rfl ⟨(bkC BK234.out 0).trans rfl, (bkC BK234.out 1).trans rfl, (bkC BK234.out 2).trans rfl, (bkC BK234.out 3).trans rfl⟩ (fun hH => ?_); refine with_tabW impl_CastPut.tab4 impl_CastPut.bits4 (fun HT_ HW_ => ?_); generalize w22.drew = w23 at HO239 BK234 HB hH ⊢; refine pure_ (i := 0) (N := some 19) (v := ?_) (a' := ?_) #[true, false, false, false, false, false, false, false, false, false] rfl rfl (any_of HT_.out (by kernel_rfl)) (fun _ _ _ h => h) (Or.inl ⟨by rfl, ?_⟩) ?_ ?_; rotate_left
        ·intro w'; go_simp; with_reducible rfl
        rotate_left
        ·simp only [pS, i64_w, i32_w]; rfl
        refine pure_ (i := 2) (N := some 21) (v := ?_) (a' := ?_) #[true, false, true, false, false, false, false, false, false, false] rfl rfl (any_of HT_.out (by kernel_rfl)) (fun _ _ _ h => h) (Or.inl ⟨by rfl, ?_⟩) ?_ ?_; rotate_left
        ·intro w'; go_simp; with_reducible rfl
        rotate_left
        ·simp only [pS, i64_w, i32_w]; rfl
        refine take_ (i := 3) (N := some 22) (v := ?_) (a' := ?_) #[true, false, true, true, false, false, false, false, false, false] rfl rfl (take_ofW HT_.out HW_.out (by kernel_rfl)) (fun _ _ _ h => h) (Or.inl ⟨by rfl, ?_⟩) hH ?_ ?_; rotate_left
        ·rintro w' ⟨s0, s1, s2, s3⟩; go_simp; with_reducible rfl
        rotate_left
        ·simp only [pS, i64_w, i32_w]; rfl
        refine one_ (i := 1) (N := some 20) #[true, true, true, true, false, false, false, false, false, false] rfl rfl (one_of HT_.out (by kernel_rfl)) (by decide) (fun K hK => ?_); refine goes_ Try.func51 (by kernel_rfl) rfl #[.slice Ao24 t237.length co24] (by rfl) rfl rfl (by (try simp only [List.map_toArray, List.map_cons, List.map_nil]); first | done | rfl | (simp only [List.length_drop, List.length_take]; rfl)) ?_; with_reducible refine (impl_facts.calls kj2 _ _ t237 t240 _ ?side1 ?side2 A14.out).mono ?_
        (case side1 => repeat (first | exact (Kd.R_reads' HO239.out).2.2 | (with_reducible refine Kd.CA ?_ _) | (with_reducible refine Kd.CN ?_ _) | (with_reducible refine Kd.CD ?_)))
        (case side2 => exact (Kd.R_reads' HO239.out).2.1)
        rintro e w25 ⟨v241, rfl, ho0, hb⟩; refine ⟨_, rfl, ?_⟩; have n0_ := Zz.mk (Kd.R_below (by (with_reducible repeat (first | apply Kd.RA | apply Kd.RN | apply Kd.RD)); exact HO239.out) hb); have n1_ := Zz.mk (Kd.R_lower (Kd.R_newB ho0 (g := gb234) (o := .cells #[.int .i64 a1_0, .int .i64 a1_1, .int .i64 a1_2, .bool a1_3] 30 (0, 0)) (by (with_reducible repeat (first | refine bkN ?_ _ | refine bkD ?_ | refine bkA ?_ _)); exact BK234.out)) (bwZ (by repeat (first | (with_reducible first | exact HB.out | apply bwA | apply pwN | apply bw1 | refine bwS ?_ GE234.out) | exact HB.out)))); have n2_ := Zz.mk (bkB (g := gb234) (o := .cells #[.int .i64 a1_0, .int .i64 a1_1, .int .i64 a1_2, .bool a1_3] 30 (0, 0)) (by (with_reducible repeat (first | refine bkN ?_ _ | refine bkD ?_ | refine bkA ?_ _)); exact BK234.out) hb); have n3_ := Zz.mk (bwP (by repeat (first | (with_reducible first | exact HB.out | apply bwA | apply pwN | apply bw1 | refine bwS ?_ GE234.out) | exact HB.out)) hb); clear HO239; clear BK234; clear HB; have HO239 := n0_; have HO242 := n1_; have BK234 := n2_; have HB := n3_; clear n0_ n1_ n2_ n3_; (try clear hb)
        (try clear ho0)
        (try clear A14)
        obtain ⟨Ao26, co26, eo26⟩ := Kd.R_slice HO242.out; (first | subst eo26 | (injection eo26 with f1_ f2_ f3_; have f4_ := f1_.symm; have f5_ := f3_.symm; clear f1_ f2_ f3_; subst f4_; subst f5_))
        refine hK.out _ _ ⟨(bkC BK234.out 0).trans rfl, (bkC BK234.out 1).trans rfl, (bkC BK234.out 2).trans rfl, (bkC BK234.out 3).trans rfl⟩ (fun hH => ?_); clear hK K; refine norm_ (a' := ?_) ?_ ?_; rotate_left
        ·show Act.put _ (some 20) _ = _
         simp only [pS, i64_w, i32_w]; rfl
        refine one_ (i := 4) (N := some 23) #[true, true, true, true, true, false, false, false, false, false] rfl rfl (one_of HT_.out (by kernel_rfl)) (by decide) (fun K hK => ?_); refine goes_ Try.func56 (by kernel_rfl) rfl #[.slice Ao26 t240.length co26, .int .i64 a1_0] (by rfl) rfl rfl (by (try simp only [List.map_toArray, List.map_cons, List.map_nil]); first | done | rfl | (simp only [List.length_drop, List.length_take]; rfl)) ?_; with_reducible refine (impl_find.calls kj2 _ _ t240 a1_0 t243 true _ ?side1 ?side2 A15.out).mono ?_
        (case side1 => repeat (first | exact (Kd.R_reads' HO242.out).2.2 | (with_reducible refine Kd.CA ?_ _) | (with_reducible refine Kd.CN ?_ _) | (with_reducible refine Kd.CD ?_)))
        (case side2 => exact (Kd.R_reads' HO242.out).2.1)
        rintro e w27 ⟨rfl, hb⟩; refine ⟨_, rfl, ?_⟩; have n0_ := Zz.mk (Kd.R_below (by (with_reducible repeat (first | apply Kd.RA | apply Kd.RN | apply Kd.RD)); exact HO239.out) hb); have n1_ := Zz.mk (Kd.R_below (by (with_reducible repeat (first | apply Kd.RA | apply Kd.RN | apply Kd.RD)); exact HO242.out) hb); have n2_ := Zz.mk (bkB (g := gb234) (o := .cells #[.int .i64 a1_0, .int .i64 a1_1, .int .i64 a1_2, .bool a1_3] 30 (0, 0)) (by (with_reducible repeat (first | refine bkN ?_ _ | refine bkD ?_ | refine bkA ?_ _)); exact BK234.out) hb); have n3_ := Zz.mk (bwP (by repeat (first | (with_reducible first | exact HB.out | apply bwA | apply pwN | apply bw1 | refine bwS ?_ GE234.out) | exact HB.out)) hb); clear HO239; clear HO242; clear BK234; clear HB; have HO239 := n0_; have HO242 := n1_; have BK234 := n2_; have HB := n3_; clear n0_ n1_ n2_ n3_; (try clear hb)
        (try clear A15)
        refine hK.out _ _ ⟨(bkC BK234.out 0).trans rfl, (bkC BK234.out 1).trans rfl, (bkC BK234.out 2).trans rfl, (bkC BK234.out 3).trans rfl⟩ (fun hH => ?_); clear hK K; refine norm_ (a' := ?_) ?_ ?_; rotate_left
        ·show Act.put _ (some 23) _ = _
         simp only [pS, i64_w, i32_w]; rfl
        refine pure_ (i := 5) (N := some 18) (v := ?_) (a' := ?_) #[true, true, true, true, true, true, false, false, false, false] rfl rfl (any_of HT_.out (by kernel_rfl)) (fun _ _ _ h => h) (Or.inl ⟨by rfl, ?_⟩) ?_ ?_; rotate_left
        ·intro w'; go_simp; with_reducible rfl
        rotate_left
        ·simp only [pS, i64_w, i32_w]; rfl
        refine pure_ (i := 6) (N := some 24) (v := ?_) (a' := ?_) #[true, true, true, true, true, true, true, false, false, false] rfl rfl (any_of HT_.out (by kernel_rfl)) (fun _ _ _ h => h) (Or.inl ⟨by rfl, ?_⟩) ?_ ?_; rotate_left
        ·intro w'; go_simp; with_reducible rfl
        rotate_left
        ·simp only [pS, i64_w, i32_w]; rfl
        refine pure_ (i := 7) (N := some 25) (v := ?_) (a' := ?_) #[true, true, true, true, true, true, true, true, false, false] rfl rfl (any_of HT_.out (by kernel_rfl)) (fun _ _ _ h => h) (Or.inl ⟨by rfl, ?_⟩) ?_ ?_; rotate_left
        ·intro w'; go_simp; with_reducible rfl
        rotate_left
        ·simp only [pS, i64_w, i32_w]; rfl
        refine pure_ (i := 8) (N := some 6) (v := ?_) (a' := ?_) #[true, true, true, true, true, true, true, true, true, false] rfl rfl (any_of HT_.out (by kernel_rfl)) (fun _ _ _ h => h) (Or.inl ⟨by rfl, ?_⟩) ?_ ?_; rotate_left
        ·intro w'; go_simp; with_reducible rfl
        rotate_left
        ·simp only [pS, i64_w, i32_w]; rfl
        refine pure_ (i := 9) (N := some 7) (v := ?_) (a' := ?_) #[true, true, true, true, true, true, true, true, true, true] rfl rfl (any_of HT_.out (by kernel_rfl)) (fun _ _ _ h => h) (Or.inl ⟨by rfl, ?_⟩) ?_ ?_; rotate_left
        ·intro w'; go_simp; with_reducible rfl
        rotate_left
        ·simp only [pS, i64_w, i32_w]; rfl
        refine done_ (done_of HT_.out (by kernel_rfl)) ?_; try go_wp2
        have n0_ := Zz.mk (Kd.RD HO239.out); have n1_ := Zz.mk (Kd.RD HO242.out); have n2_ := Zz.mk (bkD BK234.out); have n3_ := Zz.mk (bw1 HB.out); clear HO239; clear HO242; clear BK234; clear HB; have HO239 := n0_; have HO242 := n1_; have BK234 := n2_; have HB := n3_; clear n0_ n1_ n2_ n3_; have p245 : 0 ≤ (t243 : Int) := of_decide_eq_true (by first | (with_reducible assumption) | assumption); have q245 : t243 < (t237.length : Int) := of_decide_eq_true (by first | (with_reducible assumption) | assumption); obtain ⟨ad245, e245, hx245_0, hx245_1, hx245_2, hx245_3, hx245_4⟩ := at_T57 (Kd.R_reads' HO239.out).2.2 t243 p245 q245; cases e245
        replace p245 := eq_true p245; replace q245 := eq_true q245; refine start_ (n := 9) (S := fun w' => w'.cell? ⟨gb234, 0, none⟩ = some (.int .i64 a1_0) ∧ w'.cell? ⟨gb234, 1, none⟩ = some (.int .i64 a1_1) ∧ w'.cell? ⟨gb234, 2, none⟩ = some (.int .i64 a1_2) ∧ w'.cell? ⟨gb234, 3, none⟩ = some (.bool a1_3) ∧ w'.cell? (ad245.add ((t243).toNat * 5)) = some (.int .i64 ((rd_T57 t237 t243).f0.f0)) ∧ w'.cell? ⟨(ad245.add ((t243).toNat * 5)).block, (ad245.add ((t243).toNat * 5)).off + 1, none⟩ = some (.int .i64 ((rd_T57 t237 t243).f0.f1)) ∧ w'.cell? ⟨(ad245.add ((t243).toNat * 5)).block, (ad245.add ((t243).toNat * 5)).off + 2, none⟩ = some (.int .i64 ((rd_T57 t237 t243).f0.f2)) ∧ w'.cell? ⟨(ad245.add ((t243).toNat * 5)).block, (ad245.add ((t243).toNat * 5)).off + 3, none⟩ = some (.bool ((rd_T57 t237 t243).f0.f3)) ∧ w'.cell? ⟨(ad245.add ((t243).toNat * 5)).block, (ad245.add ((t243).toNat * 5)).off + 4, none⟩ = some (.int .i64 ((rd_T57 t237 t243).f1))) (ds := []) #[false, false, false, false, false, false, false, false, false] (by kernel_rfl) rfl rfl ⟨(bkC BK234.out 0).trans rfl, (bkC BK234.out 1).trans rfl, (bkC BK234.out 2).trans rfl, (bkC BK234.out 3).trans rfl, hx245_0, hx245_1, hx245_2, hx245_3, hx245_4⟩ (fun hH => ?_); refine with_tabW impl_CastPut.tab7 impl_CastPut.bits7 (fun HT_ HW_ => ?_); generalize w27.drew = w28 at HO239 HO242 BK234 HB hx245_0 hx245_1 hx245_2 hx245_3 hx245_4 hH ⊢; refine pure_ (i := 1) (N := some 37) (v := ?_) (a' := ?_) #[false, true, false, false, false, false, false, false, false] rfl rfl (any_of HT_.out (by kernel_rfl)) (fun _ _ _ h => h) (Or.inl ⟨by rfl, ?_⟩) ?_ ?_; rotate_left
        ·intro w'; go_simp; with_reducible rfl
        rotate_left
        ·simp only [pS, i64_w, i32_w]; rfl
        refine pure_ (i := 2) (N := some 38) (v := ?_) (a' := ?_) #[false, true, true, false, false, false, false, false, false] rfl rfl (any_of HT_.out (by kernel_rfl)) (fun _ _ _ h => h) (Or.inl ⟨by rfl, ?_⟩) ?_ ?_; rotate_left
        ·intro w'; go_simp; with_reducible rfl
        rotate_left
        ·simp only [pS, i64_w, i32_w]; rfl
        refine pure_ (i := 3) (N := some 39) (v := ?_) (a' := ?_) #[false, true, true, true, false, false, false, false, false] rfl rfl (any_of HT_.out (by kernel_rfl)) (fun _ _ _ h => h) (Or.inl ⟨by rfl, ?_⟩) ?_ ?_; rotate_left
        ·intro w'; go_simp; with_reducible rfl
        rotate_left
        ·simp only [pS, i64_w, i32_w]; rfl
        refine pure_ (i := 4) (N := some 40) (v := ?_) (a' := ?_) #[false, true, true, true, true, false, false, false, false] rfl rfl (any_of HT_.out (by kernel_rfl)) (fun _ _ _ h => h) (Or.inl ⟨by rfl, ?_⟩) ?_ ?_; rotate_left
        ·intro w'; go_simp; with_reducible rfl
        rotate_left
        ·simp only [pS, i64_w, i32_w]; rfl
        refine take_ (i := 0) (N := some 36) (v := ?_) (a' := ?_) #[true, true, true, true, true, false, false, false, false] rfl rfl (take_ofW HT_.out HW_.out (by kernel_rfl)) (fun _ _ _ h => h) (Or.inl ⟨by rfl, ?_⟩) hH ?_ ?_; rotate_left
        ·rintro w' ⟨s0, s1, s2, s3, s4, s5, s6, s7, s8⟩; go_simp; with_reducible rfl
        rotate_left
        ·simp only [pS, i64_w, i32_w]; rfl
        refine take_ (i := 5) (N := some 41) (v := ?_) (a' := ?_) #[true, true, true, true, true, true, false, false, false] rfl rfl (take_ofW HT_.out HW_.out (by kernel_rfl)) (fun _ _ _ h => h) (Or.inl ⟨by rfl, ?_⟩) hH ?_ ?_; rotate_left
        ·rintro w' ⟨s0, s1, s2, s3, s4, s5, s6, s7, s8⟩; go_simp; with_reducible rfl
        rotate_left
        ·simp only [pS, i64_w, i32_w]; rfl
        refine one_ (i := 6) (N := some 42) #[true, true, true, true, true, true, true, false, false] rfl rfl (one_of HT_.out (by kernel_rfl)) (by decide) (fun K hK => ?_); refine goes_ Try.func58 (by kernel_rfl) rfl #[.agg #[.int .i64 a1_0, .int .i64 a1_1, .int .i64 a1_2, .bool a1_3], .agg #[.int .i64 ((rd_T57 t237 t243).f0.f0), .int .i64 ((rd_T57 t237 t243).f0.f1), .int .i64 ((rd_T57 t237 t243).f0.f2), .bool ((rd_T57 t237 t243).f0.f3)]] (by rfl) rfl rfl (by (try simp only [List.map_toArray, List.map_cons, List.map_nil]); first | done | rfl | (simp only [List.length_drop, List.length_take]; rfl)) ?_; with_reducible refine (impl_Fact_compare.calls kj2 a1_0 a1_1 a1_2 a1_3 ((rd_T57 t237 t243).f0.f0) ((rd_T57 t237 t243).f0.f1) ((rd_T57 t237 t243).f0.f2) ((rd_T57 t237 t243).f0.f3) t246 _ A19.out).mono ?_
        rintro e w29 ⟨rfl, hb⟩; have HS4_ := (hb.cell (World.block_lt_of_cell? _ _ (hH.2.2.2.2.1))).trans (hH.2.2.2.2.1); have HS5_ := (hb.cell (World.block_lt_of_cell? _ _ (hH.2.2.2.2.2.1))).trans (hH.2.2.2.2.2.1); have HS6_ := (hb.cell (World.block_lt_of_cell? _ _ (hH.2.2.2.2.2.2.1))).trans (hH.2.2.2.2.2.2.1); have HS7_ := (hb.cell (World.block_lt_of_cell? _ _ (hH.2.2.2.2.2.2.2.1))).trans (hH.2.2.2.2.2.2.2.1); have HS8_ := (hb.cell (World.block_lt_of_cell? _ _ (hH.2.2.2.2.2.2.2.2))).trans (hH.2.2.2.2.2.2.2.2); refine ⟨_, rfl, ?_⟩; have n0_ := Zz.mk (Kd.R_below (by (with_reducible repeat (first | apply Kd.RA | apply Kd.RN | apply Kd.RD)); exact HO239.out) hb); have n1_ := Zz.mk (Kd.R_below (by (with_reducible repeat (first | apply Kd.RA | apply Kd.RN | apply Kd.RD)); exact HO242.out) hb); have n2_ := Zz.mk (bkB (g := gb234) (o := .cells #[.int .i64 a1_0, .int .i64 a1_1, .int .i64 a1_2, .bool a1_3] 30 (0, 0)) (by (with_reducible repeat (first | refine bkN ?_ _ | refine bkD ?_ | refine bkA ?_ _)); exact BK234.out) hb); have n3_ := Zz.mk (bwP (by repeat (first | (with_reducible first | exact HB.out | apply bwA | apply pwN | apply bw1 | refine bwS ?_ GE234.out) | exact HB.out)) hb); clear HO239; clear HO242; clear BK234; clear HB; have HO239 := n0_; have HO242 := n1_; have BK234 := n2_; have HB := n3_; clear n0_ n1_ n2_ n3_; (try clear hb)
        (try clear A19)
        refine hK.out _ _ ⟨(bkC BK234.out 0).trans rfl, (bkC BK234.out 1).trans rfl, (bkC BK234.out 2).trans rfl, (bkC BK234.out 3).trans rfl, HS4_, HS5_, HS6_, HS7_, HS8_⟩ (fun hH => ?_); clear hK K; refine norm_ (a' := ?_) ?_ ?_; rotate_left
        ·show Act.put _ (some 42) _ = _
         simp only [pS, i64_w, i32_w]; rfl
        refine pure_ (i := 7) (N := some 43) (v := ?_) (a' := ?_) #[true, true, true, true, true, true, true, true, false] rfl rfl (any_of HT_.out (by kernel_rfl)) (fun _ _ _ h => h) (Or.inl ⟨by rfl, ?_⟩) ?_ ?_; rotate_left
        ·intro w'; go_simp; with_reducible rfl
        rotate_left
        ·simp only [pS, i64_w, i32_w]; rfl
        refine pure_ (i := 8) (N := some 35) (v := ?_) (a' := ?_) #[true, true, true, true, true, true, true, true, true] rfl rfl (any_of HT_.out (by kernel_rfl)) (fun _ _ _ h => h) (Or.inl ⟨by rfl, ?_⟩) ?_ ?_; rotate_left
        ·intro w'; go_simp; with_reducible rfl
        rotate_left
        ·simp only [pS, i64_w, i32_w]; rfl
        refine done_ (done_of HT_.out (by kernel_rfl)) ?_; have hcz30_0 : w29.cell? ⟨gb234, 0, none⟩ = some (.int .i64 a1_0) := (bkC BK234.out 0).trans rfl; have hcz30_1 : w29.cell? ⟨gb234, 1, none⟩ = some (.int .i64 a1_1) := (bkC BK234.out 1).trans rfl; have hcz30_2 : w29.cell? ⟨gb234, 2, none⟩ = some (.int .i64 a1_2) := (bkC BK234.out 2).trans rfl; have hcz30_3 : w29.cell? ⟨gb234, 3, none⟩ = some (.bool a1_3) := (bkC BK234.out 3).trans rfl; have hfz30_0 := bkF BK234.out 0; have hfz30_1 := bkF BK234.out 1; have hfz30_2 := bkF BK234.out 2; have hfz30_3 := bkF BK234.out 3; have p21 : 0 ≤ (t243 : Int) := of_decide_eq_true (by first | (with_reducible assumption) | assumption); have q21 : (t243 : Int) < ((t237.length : Int) : Int) := of_decide_eq_true (by first | (with_reducible assumption) | assumption); obtain ⟨go21, co21, eo21, gb21, gl21, cl21, HG21⟩ := Kd.R_form HO239.out (by omega); (first | cases eo21 | (injection eo21 with ea_ en_ ec_; (first | subst ea_ | (injection ea_ with ea_; subst ea_)); subst ec_; clear en_))
        have GB21 := Zz.mk gb21; have GG21 := Zz.mk HG21; clear gb21 gl21 HG21; (first | simp only [add_plain] at hx245_0 | skip)
        (first | simp only [add_plain] at hx245_1 | skip)
        (first | simp only [add_plain] at hx245_2 | skip)
        (first | simp only [add_plain] at hx245_3 | skip)
        (first | simp only [add_plain] at hx245_4 | skip)
        obtain ⟨ce21, hcl21, hM21, hcc21, hfr21⟩ := Kd.R_elem HO239.out z57 (t243 : Int) p21 q21; obtain rfl := k57_openM hM21; have hx21_0 : w29.cell? ⟨go21, (t243 : Int).toNat * 5, none⟩ = some (.int .i64 ((rd_T57 t237 t243).f0.f0)) := hcc21 0 _ rfl; have hx21_1 : w29.cell? ⟨go21, (t243 : Int).toNat * 5 + 1, none⟩ = some (.int .i64 ((rd_T57 t237 t243).f0.f1)) := hcc21 1 _ rfl; have hx21_2 : w29.cell? ⟨go21, (t243 : Int).toNat * 5 + 2, none⟩ = some (.int .i64 ((rd_T57 t237 t243).f0.f2)) := hcc21 2 _ rfl; have hx21_3 : w29.cell? ⟨go21, (t243 : Int).toNat * 5 + 3, none⟩ = some (.bool ((rd_T57 t237 t243).f0.f3)) := hcc21 3 _ rfl; have hx21_4 : w29.cell? ⟨go21, (t243 : Int).toNat * 5 + 4, none⟩ = some (.int .i64 ((rd_T57 t237 t243).f1)) := hcc21 4 _ rfl; have hf21_0 : w29.frozen? ⟨go21, (t243 : Int).toNat * 5, none⟩ = false := hfr21 0; have hf21_1 : w29.frozen? ⟨go21, (t243 : Int).toNat * 5 + 1, none⟩ = false := hfr21 1; have hf21_2 : w29.frozen? ⟨go21, (t243 : Int).toNat * 5 + 2, none⟩ = false := hfr21 2; have hf21_3 : w29.frozen? ⟨go21, (t243 : Int).toNat * 5 + 3, none⟩ = false := hfr21 3; have hf21_4 : w29.frozen? ⟨go21, (t243 : Int).toNat * 5 + 4, none⟩ = false := hfr21 4; clear hcl21 hcc21 hfr21 hM21; replace p21 := eq_true p21; replace q21 := eq_true q21; have HX31 := Zz.mk (show Kd.R k57 57 w29 w.heap.size (fun _ => True) (.slice (some ⟨go21, 0, none⟩) t237.length co24) t237 from (by (with_reducible repeat (first | apply Kd.RA | apply Kd.RN | apply Kd.RD)); exact HO239.out)); obtain ⟨ce31, hcl31, hM31, hcc31, hfr31⟩ := Kd.R_elem HX31.out z57 (t243 : Int) (of_decide_eq_true (by first | (with_reducible assumption) | assumption)) (by have h_ : (t243 : Int) < ((t237.length : Int) : Int) := of_decide_eq_true (by first | (with_reducible assumption) | assumption); first | exact h_ | (have e_ := (Kd.R_reads' HO239.out).1; omega) | simpa using h_); obtain rfl := k57_openM hM31; have HP31 := Kd.R_seg HX31.out (t243 : Int) (of_decide_eq_true (by first | (with_reducible assumption) | assumption)) (by have h_ : (t243 : Int) < ((t237.length : Int) : Int) := of_decide_eq_true (by first | (with_reducible assumption) | assumption); first | exact h_ | (have e_ := (Kd.R_reads' HO239.out).1; omega) | simpa using h_) (seg := [.int .i64 a1_0, .int .i64 a1_1, .int .i64 a1_2, .bool a1_3, .int .i64 4]) (j := 0) hcl31 hcc31 (show 5 ≤ 5 from by decide) (x' := (⟨(⟨a1_0, a1_1, a1_2, a1_3⟩ : S30), 4⟩ : S57)) (k57_mkM _ _ _ (⟨(⟨a1_0, a1_1, a1_2, a1_3⟩ : S30), 4⟩ : S57) ) (fun _ hk => hk); have hx31_0 := hcc31 0 _ rfl; (try simp only [show (k57).sz = 5 from rfl, Nat.mul_one, Nat.add_zero] at hx31_0)
        have hf31_0 := hfr31 0; (try simp only [show (k57).sz = 5 from rfl, Nat.mul_one, Nat.add_zero] at hf31_0)
        have hx31_1 := hcc31 1 _ rfl; (try simp only [show (k57).sz = 5 from rfl, Nat.mul_one, Nat.add_zero] at hx31_1)
        have hf31_1 := hfr31 1; (try simp only [show (k57).sz = 5 from rfl, Nat.mul_one, Nat.add_zero] at hf31_1)
        have hx31_2 := hcc31 2 _ rfl; (try simp only [show (k57).sz = 5 from rfl, Nat.mul_one, Nat.add_zero] at hx31_2)
        have hf31_2 := hfr31 2; (try simp only [show (k57).sz = 5 from rfl, Nat.mul_one, Nat.add_zero] at hf31_2)
        have hx31_3 := hcc31 3 _ rfl; (try simp only [show (k57).sz = 5 from rfl, Nat.mul_one, Nat.add_zero] at hx31_3)
        have hf31_3 := hfr31 3; (try simp only [show (k57).sz = 5 from rfl, Nat.mul_one, Nat.add_zero] at hf31_3)
        have hx31_4 := hcc31 4 _ rfl; (try simp only [show (k57).sz = 5 from rfl, Nat.mul_one, Nat.add_zero] at hx31_4)
        have hf31_4 := hfr31 4; (try simp only [show (k57).sz = 5 from rfl, Nat.mul_one, Nat.add_zero] at hf31_4)
        clear hcl31 hcc31 hfr31 hM31; try go_wp2_with (first | ((with_reducible refine gate_store (t := 57) (p := 48) rfl ?_); refine store_event (t := 57) (p := 48) (v := ?vo_w32) (w1 := (((((w29.setCell ⟨go21, (t243 : Int).toNat * 5, none⟩ (.int .i64 a1_0)).setCell ⟨go21, (t243 : Int).toNat * 5 + 1, none⟩ (.int .i64 a1_1)).setCell ⟨go21, (t243 : Int).toNat * 5 + 2, none⟩ (.int .i64 a1_2)).setCell ⟨go21, (t243 : Int).toNat * 5 + 3, none⟩ (.bool a1_3)).setCell ⟨go21, (t243 : Int).toNat * 5 + 4, none⟩ (.int .i64 4))) ?hg ?ho ?hn ?hr ?_; (case ho => rfl); (case hg => rfl); (case hn => rfl); (case hr => first | (go_simp; done) | (go_simp; rfl)); intro w32 hw; have hg : w29.grownBy w32 (some go21) := (by rw [hw]; exact HP31.2); have hp_ : Kd.R k57 57 w32 w.heap.size (fun _ => True) (.slice (some ⟨go21, 0, none⟩) t237.length co24) y247 := (by rw [hw, Ny247.out]; exact HP31.1); clear HP31; have n0_ := Zz.mk (bkG (g := gb234) (o := .cells #[.int .i64 a1_0, .int .i64 a1_1, .int .i64 a1_2, .bool a1_3] 30 (0, 0)) (by (with_reducible repeat (first | refine bkN ?_ _ | refine bkD ?_ | refine bkA ?_ _)); exact BK234.out) hg (Kd.R_ne HO239.out BK234.out (by decide))); have n1_ := Zz.mk (hp_); have n2_ := Zz.mk (Kd.R_over' (v := (.slice (some ⟨go21, 0, none⟩) t237.length co24)) (by (with_reducible repeat (first | apply Kd.RA | apply Kd.RN | apply Kd.RD)); exact HO242.out) (Kd.R_typed HO239.out) (by decide) hg); have n3_ := Zz.mk ((by rw [hw]; exact bwS (bwS (bwS (bwS (bwS (HB.out) GB21.out) GB21.out) GB21.out) GB21.out) GB21.out : Below w.heap.size w w32)); clear BK234; clear HO239; clear HO242; clear HB; have BK234 := n0_; have HO239 := n1_; have HO242 := n2_; have HB := n3_; clear n0_ n1_ n2_ n3_; clear hg hw hp_))
        go_ret
        exact ⟨_, by first | rfl | (simp [eN, eS] <;> rfl) | (simp [*, eN, eS] <;> rfl), by (with_reducible repeat (first | apply Kd.RA | apply Kd.RN | apply Kd.RD)); exact HO239.out, by repeat (first | (with_reducible first | exact HB.out | apply bwA | apply pwN | apply bw1 | refine bwS ?_ GE234.out) | exact HB.out)⟩
       ·rw [if_neg c20] at H
        have c20b0 : decide (0 < t246) = false := decide_eq_false c20; clear c20; obtain rfl := Option.some.inj H; try go_wp2_with (first | ((with_reducible refine gate_callee (f := 55) rfl ?_); refine goesL_ (some 17) rfl rfl Try.func55 (by kernel_rfl) rfl #[.slice A0 l0.length c0] rfl (by (try simp only [List.map_toArray, List.map_cons, List.map_nil]); first | done | rfl | (simp only [List.length_drop, List.length_take]; rfl)) ?_; (with_reducible refine (impl_Item_55.calls _ _ l0 t237 _ ?side1 ?side2 A13.out).mono ?_); (case side1 => repeat (first | exact (Kd.C_below HR0.out HB.out) | (with_reducible refine Kd.CA ?_ _) | (with_reducible refine Kd.CN ?_ _) | (with_reducible refine Kd.CD ?_))); (case side2 => exact HC0.out); rintro e w33 ⟨v238, rfl, ho0, hb⟩; refine ⟨_, rfl, ?_⟩; have n0_ := Zz.mk (Kd.R_lower ho0 (bwZ (by repeat (first | (with_reducible first | exact HB.out | apply bwA | apply pwN | apply bw1 | refine bwS ?_ GE234.out) | exact HB.out)))); have n1_ := Zz.mk (bkB (g := gb234) (o := .cells #[.int .i64 a1_0, .int .i64 a1_1, .int .i64 a1_2, .bool a1_3] 30 (0, 0)) (by (with_reducible repeat (first | refine bkN ?_ _ | refine bkD ?_ | refine bkA ?_ _)); exact BK234.out) hb); have n2_ := Zz.mk (bwP (by repeat (first | (with_reducible first | exact HB.out | apply bwA | apply pwN | apply bw1 | refine bwS ?_ GE234.out) | exact HB.out)) hb); clear BK234; clear HB; have HO239 := n0_; have BK234 := n1_; have HB := n2_; clear n0_ n1_ n2_; (try clear hb); (try clear ho0); (try clear A13)))
        have n0_ := Zz.mk (Kd.RD HO239.out); have n1_ := Zz.mk (bkD BK234.out); have n2_ := Zz.mk (bw1 HB.out); clear HO239; clear BK234; clear HB; have HO239 := n0_; have BK234 := n1_; have HB := n2_; clear n0_ n1_ n2_; obtain ⟨Ao35, co35, eo35⟩ := Kd.R_slice HO239.out; (first | subst eo35 | (injection eo35 with f1_ f2_ f3_; have f4_ := f1_.symm; have f5_ := f3_.symm; clear f1_ f2_ f3_; subst f4_; subst f5_))
        refine start_ (n := 10) (S := fun w' => w'.cell? ⟨gb234, 0, none⟩ = some (.int .i64 a1_0) ∧ w'.cell? ⟨gb234, 1, none⟩ = some (.int .i64 a1_1) ∧ w'.cell? ⟨gb234, 2, none⟩ = some (.int .i64 a1_2) ∧ w'.cell? ⟨gb234, 3, none⟩ = some (.bool a1_3)) (ds := []) #[false, false, false, false, false, false, false, false, false, false] (by kernel_rfl) rfl rfl ⟨(bkC BK234.out 0).trans rfl, (bkC BK234.out 1).trans rfl, (bkC BK234.out 2).trans rfl, (bkC BK234.out 3).trans rfl⟩ (fun hH => ?_); refine with_tabW impl_CastPut.tab4 impl_CastPut.bits4 (fun HT_ HW_ => ?_); generalize w33.drew = w34 at HO239 BK234 HB hH ⊢; refine pure_ (i := 0) (N := some 19) (v := ?_) (a' := ?_) #[true, false, false, false, false, false, false, false, false, false] rfl rfl (any_of HT_.out (by kernel_rfl)) (fun _ _ _ h => h) (Or.inl ⟨by rfl, ?_⟩) ?_ ?_; rotate_left
        ·intro w'; go_simp; with_reducible rfl
        rotate_left
        ·simp only [pS, i64_w, i32_w]; rfl
        refine pure_ (i := 2) (N := some 21) (v := ?_) (a' := ?_) #[true, false, true, false, false, false, false, false, false, false] rfl rfl (any_of HT_.out (by kernel_rfl)) (fun _ _ _ h => h) (Or.inl ⟨by rfl, ?_⟩) ?_ ?_; rotate_left
        ·intro w'; go_simp; with_reducible rfl
        rotate_left
        ·simp only [pS, i64_w, i32_w]; rfl
        refine take_ (i := 3) (N := some 22) (v := ?_) (a' := ?_) #[true, false, true, true, false, false, false, false, false, false] rfl rfl (take_ofW HT_.out HW_.out (by kernel_rfl)) (fun _ _ _ h => h) (Or.inl ⟨by rfl, ?_⟩) hH ?_ ?_; rotate_left
        ·rintro w' ⟨s0, s1, s2, s3⟩; go_simp; with_reducible rfl
        rotate_left
        ·simp only [pS, i64_w, i32_w]; rfl
        refine one_ (i := 1) (N := some 20) #[true, true, true, true, false, false, false, false, false, false] rfl rfl (one_of HT_.out (by kernel_rfl)) (by decide) (fun K hK => ?_); refine goes_ Try.func51 (by kernel_rfl) rfl #[.slice Ao35 t237.length co35] (by rfl) rfl rfl (by (try simp only [List.map_toArray, List.map_cons, List.map_nil]); first | done | rfl | (simp only [List.length_drop, List.length_take]; rfl)) ?_; with_reducible refine (impl_facts.calls kj2 _ _ t237 t240 _ ?side1 ?side2 A14.out).mono ?_
        (case side1 => repeat (first | exact (Kd.R_reads' HO239.out).2.2 | (with_reducible refine Kd.CA ?_ _) | (with_reducible refine Kd.CN ?_ _) | (with_reducible refine Kd.CD ?_)))
        (case side2 => exact (Kd.R_reads' HO239.out).2.1)
        rintro e w36 ⟨v241, rfl, ho0, hb⟩; refine ⟨_, rfl, ?_⟩; have n0_ := Zz.mk (Kd.R_below (by (with_reducible repeat (first | apply Kd.RA | apply Kd.RN | apply Kd.RD)); exact HO239.out) hb); have n1_ := Zz.mk (Kd.R_lower (Kd.R_newB ho0 (g := gb234) (o := .cells #[.int .i64 a1_0, .int .i64 a1_1, .int .i64 a1_2, .bool a1_3] 30 (0, 0)) (by (with_reducible repeat (first | refine bkN ?_ _ | refine bkD ?_ | refine bkA ?_ _)); exact BK234.out)) (bwZ (by repeat (first | (with_reducible first | exact HB.out | apply bwA | apply pwN | apply bw1 | refine bwS ?_ GE234.out) | exact HB.out)))); have n2_ := Zz.mk (bkB (g := gb234) (o := .cells #[.int .i64 a1_0, .int .i64 a1_1, .int .i64 a1_2, .bool a1_3] 30 (0, 0)) (by (with_reducible repeat (first | refine bkN ?_ _ | refine bkD ?_ | refine bkA ?_ _)); exact BK234.out) hb); have n3_ := Zz.mk (bwP (by repeat (first | (with_reducible first | exact HB.out | apply bwA | apply pwN | apply bw1 | refine bwS ?_ GE234.out) | exact HB.out)) hb); clear HO239; clear BK234; clear HB; have HO239 := n0_; have HO242 := n1_; have BK234 := n2_; have HB := n3_; clear n0_ n1_ n2_ n3_; (try clear hb)
        (try clear ho0)
        (try clear A14)
        obtain ⟨Ao37, co37, eo37⟩ := Kd.R_slice HO242.out; (first | subst eo37 | (injection eo37 with f1_ f2_ f3_; have f4_ := f1_.symm; have f5_ := f3_.symm; clear f1_ f2_ f3_; subst f4_; subst f5_))
        refine hK.out _ _ ⟨(bkC BK234.out 0).trans rfl, (bkC BK234.out 1).trans rfl, (bkC BK234.out 2).trans rfl, (bkC BK234.out 3).trans rfl⟩ (fun hH => ?_); clear hK K; refine norm_ (a' := ?_) ?_ ?_; rotate_left
        ·show Act.put _ (some 20) _ = _
         simp only [pS, i64_w, i32_w]; rfl
        refine one_ (i := 4) (N := some 23) #[true, true, true, true, true, false, false, false, false, false] rfl rfl (one_of HT_.out (by kernel_rfl)) (by decide) (fun K hK => ?_); refine goes_ Try.func56 (by kernel_rfl) rfl #[.slice Ao37 t240.length co37, .int .i64 a1_0] (by rfl) rfl rfl (by (try simp only [List.map_toArray, List.map_cons, List.map_nil]); first | done | rfl | (simp only [List.length_drop, List.length_take]; rfl)) ?_; with_reducible refine (impl_find.calls kj2 _ _ t240 a1_0 t243 true _ ?side1 ?side2 A15.out).mono ?_
        (case side1 => repeat (first | exact (Kd.R_reads' HO242.out).2.2 | (with_reducible refine Kd.CA ?_ _) | (with_reducible refine Kd.CN ?_ _) | (with_reducible refine Kd.CD ?_)))
        (case side2 => exact (Kd.R_reads' HO242.out).2.1)
        rintro e w38 ⟨rfl, hb⟩; refine ⟨_, rfl, ?_⟩; have n0_ := Zz.mk (Kd.R_below (by (with_reducible repeat (first | apply Kd.RA | apply Kd.RN | apply Kd.RD)); exact HO239.out) hb); have n1_ := Zz.mk (Kd.R_below (by (with_reducible repeat (first | apply Kd.RA | apply Kd.RN | apply Kd.RD)); exact HO242.out) hb); have n2_ := Zz.mk (bkB (g := gb234) (o := .cells #[.int .i64 a1_0, .int .i64 a1_1, .int .i64 a1_2, .bool a1_3] 30 (0, 0)) (by (with_reducible repeat (first | refine bkN ?_ _ | refine bkD ?_ | refine bkA ?_ _)); exact BK234.out) hb); have n3_ := Zz.mk (bwP (by repeat (first | (with_reducible first | exact HB.out | apply bwA | apply pwN | apply bw1 | refine bwS ?_ GE234.out) | exact HB.out)) hb); clear HO239; clear HO242; clear BK234; clear HB; have HO239 := n0_; have HO242 := n1_; have BK234 := n2_; have HB := n3_; clear n0_ n1_ n2_ n3_; (try clear hb)
        (try clear A15)
        refine hK.out _ _ ⟨(bkC BK234.out 0).trans rfl, (bkC BK234.out 1).trans rfl, (bkC BK234.out 2).trans rfl, (bkC BK234.out 3).trans rfl⟩ (fun hH => ?_); clear hK K; refine norm_ (a' := ?_) ?_ ?_; rotate_left
        ·show Act.put _ (some 23) _ = _
         simp only [pS, i64_w, i32_w]; rfl
        refine pure_ (i := 5) (N := some 18) (v := ?_) (a' := ?_) #[true, true, true, true, true, true, false, false, false, false] rfl rfl (any_of HT_.out (by kernel_rfl)) (fun _ _ _ h => h) (Or.inl ⟨by rfl, ?_⟩) ?_ ?_; rotate_left
        ·intro w'; go_simp; with_reducible rfl
        rotate_left
        ·simp only [pS, i64_w, i32_w]; rfl
        refine pure_ (i := 6) (N := some 24) (v := ?_) (a' := ?_) #[true, true, true, true, true, true, true, false, false, false] rfl rfl (any_of HT_.out (by kernel_rfl)) (fun _ _ _ h => h) (Or.inl ⟨by rfl, ?_⟩) ?_ ?_; rotate_left
        ·intro w'; go_simp; with_reducible rfl
        rotate_left
        ·simp only [pS, i64_w, i32_w]; rfl
        refine pure_ (i := 7) (N := some 25) (v := ?_) (a' := ?_) #[true, true, true, true, true, true, true, true, false, false] rfl rfl (any_of HT_.out (by kernel_rfl)) (fun _ _ _ h => h) (Or.inl ⟨by rfl, ?_⟩) ?_ ?_; rotate_left
        ·intro w'; go_simp; with_reducible rfl
        rotate_left
        ·simp only [pS, i64_w, i32_w]; rfl
        refine pure_ (i := 8) (N := some 6) (v := ?_) (a' := ?_) #[true, true, true, true, true, true, true, true, true, false] rfl rfl (any_of HT_.out (by kernel_rfl)) (fun _ _ _ h => h) (Or.inl ⟨by rfl, ?_⟩) ?_ ?_; rotate_left
        ·intro w'; go_simp; with_reducible rfl
        rotate_left
        ·simp only [pS, i64_w, i32_w]; rfl
        refine pure_ (i := 9) (N := some 7) (v := ?_) (a' := ?_) #[true, true, true, true, true, true, true, true, true, true] rfl rfl (any_of HT_.out (by kernel_rfl)) (fun _ _ _ h => h) (Or.inl ⟨by rfl, ?_⟩) ?_ ?_; rotate_left
        ·intro w'; go_simp; with_reducible rfl
        rotate_left
        ·simp only [pS, i64_w, i32_w]; rfl
        refine done_ (done_of HT_.out (by kernel_rfl)) ?_; try go_wp2
        have n0_ := Zz.mk (Kd.RD HO239.out); have n1_ := Zz.mk (Kd.RD HO242.out); have n2_ := Zz.mk (bkD BK234.out); have n3_ := Zz.mk (bw1 HB.out); clear HO239; clear HO242; clear BK234; clear HB; have HO239 := n0_; have HO242 := n1_; have BK234 := n2_; have HB := n3_; clear n0_ n1_ n2_ n3_; have p245 : 0 ≤ (t243 : Int) := of_decide_eq_true (by first | (with_reducible assumption) | assumption); have q245 : t243 < (t237.length : Int) := of_decide_eq_true (by first | (with_reducible assumption) | assumption); obtain ⟨ad245, e245, hx245_0, hx245_1, hx245_2, hx245_3, hx245_4⟩ := at_T57 (Kd.R_reads' HO239.out).2.2 t243 p245 q245; cases e245
        replace p245 := eq_true p245; replace q245 := eq_true q245; refine start_ (n := 9) (S := fun w' => w'.cell? ⟨gb234, 0, none⟩ = some (.int .i64 a1_0) ∧ w'.cell? ⟨gb234, 1, none⟩ = some (.int .i64 a1_1) ∧ w'.cell? ⟨gb234, 2, none⟩ = some (.int .i64 a1_2) ∧ w'.cell? ⟨gb234, 3, none⟩ = some (.bool a1_3) ∧ w'.cell? (ad245.add ((t243).toNat * 5)) = some (.int .i64 ((rd_T57 t237 t243).f0.f0)) ∧ w'.cell? ⟨(ad245.add ((t243).toNat * 5)).block, (ad245.add ((t243).toNat * 5)).off + 1, none⟩ = some (.int .i64 ((rd_T57 t237 t243).f0.f1)) ∧ w'.cell? ⟨(ad245.add ((t243).toNat * 5)).block, (ad245.add ((t243).toNat * 5)).off + 2, none⟩ = some (.int .i64 ((rd_T57 t237 t243).f0.f2)) ∧ w'.cell? ⟨(ad245.add ((t243).toNat * 5)).block, (ad245.add ((t243).toNat * 5)).off + 3, none⟩ = some (.bool ((rd_T57 t237 t243).f0.f3)) ∧ w'.cell? ⟨(ad245.add ((t243).toNat * 5)).block, (ad245.add ((t243).toNat * 5)).off + 4, none⟩ = some (.int .i64 ((rd_T57 t237 t243).f1))) (ds := []) #[false, false, false, false, false, false, false, false, false] (by kernel_rfl) rfl rfl ⟨(bkC BK234.out 0).trans rfl, (bkC BK234.out 1).trans rfl, (bkC BK234.out 2).trans rfl, (bkC BK234.out 3).trans rfl, hx245_0, hx245_1, hx245_2, hx245_3, hx245_4⟩ (fun hH => ?_); refine with_tabW impl_CastPut.tab7 impl_CastPut.bits7 (fun HT_ HW_ => ?_); generalize w38.drew = w39 at HO239 HO242 BK234 HB hx245_0 hx245_1 hx245_2 hx245_3 hx245_4 hH ⊢; refine pure_ (i := 1) (N := some 37) (v := ?_) (a' := ?_) #[false, true, false, false, false, false, false, false, false] rfl rfl (any_of HT_.out (by kernel_rfl)) (fun _ _ _ h => h) (Or.inl ⟨by rfl, ?_⟩) ?_ ?_; rotate_left
        ·intro w'; go_simp; with_reducible rfl
        rotate_left
        ·simp only [pS, i64_w, i32_w]; rfl
        refine pure_ (i := 2) (N := some 38) (v := ?_) (a' := ?_) #[false, true, true, false, false, false, false, false, false] rfl rfl (any_of HT_.out (by kernel_rfl)) (fun _ _ _ h => h) (Or.inl ⟨by rfl, ?_⟩) ?_ ?_; rotate_left
        ·intro w'; go_simp; with_reducible rfl
        rotate_left
        ·simp only [pS, i64_w, i32_w]; rfl
        refine pure_ (i := 3) (N := some 39) (v := ?_) (a' := ?_) #[false, true, true, true, false, false, false, false, false] rfl rfl (any_of HT_.out (by kernel_rfl)) (fun _ _ _ h => h) (Or.inl ⟨by rfl, ?_⟩) ?_ ?_; rotate_left
        ·intro w'; go_simp; with_reducible rfl
        rotate_left
        ·simp only [pS, i64_w, i32_w]; rfl
        refine pure_ (i := 4) (N := some 40) (v := ?_) (a' := ?_) #[false, true, true, true, true, false, false, false, false] rfl rfl (any_of HT_.out (by kernel_rfl)) (fun _ _ _ h => h) (Or.inl ⟨by rfl, ?_⟩) ?_ ?_; rotate_left
        ·intro w'; go_simp; with_reducible rfl
        rotate_left
        ·simp only [pS, i64_w, i32_w]; rfl
        refine take_ (i := 0) (N := some 36) (v := ?_) (a' := ?_) #[true, true, true, true, true, false, false, false, false] rfl rfl (take_ofW HT_.out HW_.out (by kernel_rfl)) (fun _ _ _ h => h) (Or.inl ⟨by rfl, ?_⟩) hH ?_ ?_; rotate_left
        ·rintro w' ⟨s0, s1, s2, s3, s4, s5, s6, s7, s8⟩; go_simp; with_reducible rfl
        rotate_left
        ·simp only [pS, i64_w, i32_w]; rfl
        refine take_ (i := 5) (N := some 41) (v := ?_) (a' := ?_) #[true, true, true, true, true, true, false, false, false] rfl rfl (take_ofW HT_.out HW_.out (by kernel_rfl)) (fun _ _ _ h => h) (Or.inl ⟨by rfl, ?_⟩) hH ?_ ?_; rotate_left
        ·rintro w' ⟨s0, s1, s2, s3, s4, s5, s6, s7, s8⟩; go_simp; with_reducible rfl
        rotate_left
        ·simp only [pS, i64_w, i32_w]; rfl
        refine one_ (i := 6) (N := some 42) #[true, true, true, true, true, true, true, false, false] rfl rfl (one_of HT_.out (by kernel_rfl)) (by decide) (fun K hK => ?_); refine goes_ Try.func58 (by kernel_rfl) rfl #[.agg #[.int .i64 a1_0, .int .i64 a1_1, .int .i64 a1_2, .bool a1_3], .agg #[.int .i64 ((rd_T57 t237 t243).f0.f0), .int .i64 ((rd_T57 t237 t243).f0.f1), .int .i64 ((rd_T57 t237 t243).f0.f2), .bool ((rd_T57 t237 t243).f0.f3)]] (by rfl) rfl rfl (by (try simp only [List.map_toArray, List.map_cons, List.map_nil]); first | done | rfl | (simp only [List.length_drop, List.length_take]; rfl)) ?_; with_reducible refine (impl_Fact_compare.calls kj2 a1_0 a1_1 a1_2 a1_3 ((rd_T57 t237 t243).f0.f0) ((rd_T57 t237 t243).f0.f1) ((rd_T57 t237 t243).f0.f2) ((rd_T57 t237 t243).f0.f3) t246 _ A19.out).mono ?_
        rintro e w40 ⟨rfl, hb⟩; have HS4_ := (hb.cell (World.block_lt_of_cell? _ _ (hH.2.2.2.2.1))).trans (hH.2.2.2.2.1); have HS5_ := (hb.cell (World.block_lt_of_cell? _ _ (hH.2.2.2.2.2.1))).trans (hH.2.2.2.2.2.1); have HS6_ := (hb.cell (World.block_lt_of_cell? _ _ (hH.2.2.2.2.2.2.1))).trans (hH.2.2.2.2.2.2.1); have HS7_ := (hb.cell (World.block_lt_of_cell? _ _ (hH.2.2.2.2.2.2.2.1))).trans (hH.2.2.2.2.2.2.2.1); have HS8_ := (hb.cell (World.block_lt_of_cell? _ _ (hH.2.2.2.2.2.2.2.2))).trans (hH.2.2.2.2.2.2.2.2); refine ⟨_, rfl, ?_⟩; have n0_ := Zz.mk (Kd.R_below (by (with_reducible repeat (first | apply Kd.RA | apply Kd.RN | apply Kd.RD)); exact HO239.out) hb); have n1_ := Zz.mk (Kd.R_below (by (with_reducible repeat (first | apply Kd.RA | apply Kd.RN | apply Kd.RD)); exact HO242.out) hb); have n2_ := Zz.mk (bkB (g := gb234) (o := .cells #[.int .i64 a1_0, .int .i64 a1_1, .int .i64 a1_2, .bool a1_3] 30 (0, 0)) (by (with_reducible repeat (first | refine bkN ?_ _ | refine bkD ?_ | refine bkA ?_ _)); exact BK234.out) hb); have n3_ := Zz.mk (bwP (by repeat (first | (with_reducible first | exact HB.out | apply bwA | apply pwN | apply bw1 | refine bwS ?_ GE234.out) | exact HB.out)) hb); clear HO239; clear HO242; clear BK234; clear HB; have HO239 := n0_; have HO242 := n1_; have BK234 := n2_; have HB := n3_; clear n0_ n1_ n2_ n3_; (try clear hb)
        (try clear A19)
        refine hK.out _ _ ⟨(bkC BK234.out 0).trans rfl, (bkC BK234.out 1).trans rfl, (bkC BK234.out 2).trans rfl, (bkC BK234.out 3).trans rfl, HS4_, HS5_, HS6_, HS7_, HS8_⟩ (fun hH => ?_); clear hK K; refine norm_ (a' := ?_) ?_ ?_; rotate_left
        ·show Act.put _ (some 42) _ = _
         simp only [pS, i64_w, i32_w]; rfl
        refine pure_ (i := 7) (N := some 43) (v := ?_) (a' := ?_) #[true, true, true, true, true, true, true, true, false] rfl rfl (any_of HT_.out (by kernel_rfl)) (fun _ _ _ h => h) (Or.inl ⟨by rfl, ?_⟩) ?_ ?_; rotate_left
        ·intro w'; go_simp; with_reducible rfl
        rotate_left
        ·simp only [pS, i64_w, i32_w]; rfl
        refine pure_ (i := 8) (N := some 35) (v := ?_) (a' := ?_) #[true, true, true, true, true, true, true, true, true] rfl rfl (any_of HT_.out (by kernel_rfl)) (fun _ _ _ h => h) (Or.inl ⟨by rfl, ?_⟩) ?_ ?_; rotate_left
        ·intro w'; go_simp; with_reducible rfl
        rotate_left
        ·simp only [pS, i64_w, i32_w]; rfl
        refine done_ (done_of HT_.out (by kernel_rfl)) ?_; try go_wp2
        go_ret
        exact ⟨_, by first | rfl | (simp [eN, eS] <;> rfl) | (simp [*, eN, eS] <;> rfl), by (with_reducible repeat (first | apply Kd.RA | apply Kd.RN | apply Kd.RD)); exact HO239.out, by repeat (first | (with_reducible first | exact HB.out | apply bwA | apply pwN | apply bw1 | refine bwS ?_ GE234.out) | exact HB.out)⟩
      ·rw [if_neg c18] at H; exact absurd H (by simp)
     ·rw [if_neg c17] at H; exact absurd H (by simp)
    ·replace c16 := Bool.eq_false_iff.mpr c16
     subst c16; have H1 : ((impl_Item_57.f t237 t243 (([(⟨(⟨a1_0, a1_1, a1_2, a1_3⟩ : S30), 4⟩ : S57)] : List (S57)))).bind fun t251 => (some t251)) = some r := by rw [if_neg (show ¬ (false = true) by decide)] at H; exact H
     clear H; have H := H1; clear H1; obtain ⟨y248, hy248⟩ : ∃ y_ : List (S57), y_ = (([(⟨(⟨a1_0, a1_1, a1_2, a1_3⟩ : S30), 4⟩ : S57)] : List (S57))) := ⟨_, rfl⟩
     replace H : ((impl_Item_57.f t237 t243 y248).bind fun t251 => (some t251)) = some r := by first | (rw [hy248]; with_reducible exact H) | (replace H := (Option.bind_some _ _).symm.trans H; first | (rw [hy248]; with_reducible exact H) | with_reducible exact H) | with_reducible exact H | (rw [hy248]; exact H) | exact H
     have Ny248 := Zz.mk hy248; clear hy248; replace H := Option.bind_eq_some_iff.mp H; obtain ⟨t251, A410, H⟩ := H; replace H : (some t251) = some r := H; have A41 := Zz.mk A410; clear A410; obtain rfl := Option.some.inj H; try go_wp2_with (first | ((with_reducible refine gate_callee (f := 55) rfl ?_); refine goesL_ (some 17) rfl rfl Try.func55 (by kernel_rfl) rfl #[.slice A0 l0.length c0] rfl (by (try simp only [List.map_toArray, List.map_cons, List.map_nil]); first | done | rfl | (simp only [List.length_drop, List.length_take]; rfl)) ?_; (with_reducible refine (impl_Item_55.calls _ _ l0 t237 _ ?side1 ?side2 A13.out).mono ?_); (case side1 => repeat (first | exact (Kd.C_below HR0.out HB.out) | (with_reducible refine Kd.CA ?_ _) | (with_reducible refine Kd.CN ?_ _) | (with_reducible refine Kd.CD ?_))); (case side2 => exact HC0.out); rintro e w42 ⟨v238, rfl, ho0, hb⟩; refine ⟨_, rfl, ?_⟩; have n0_ := Zz.mk (Kd.R_lower ho0 (bwZ (by repeat (first | (with_reducible first | exact HB.out | apply bwA | apply pwN | apply bw1 | refine bwS ?_ GE234.out) | exact HB.out)))); have n1_ := Zz.mk (bkB (g := gb234) (o := .cells #[.int .i64 a1_0, .int .i64 a1_1, .int .i64 a1_2, .bool a1_3] 30 (0, 0)) (by (with_reducible repeat (first | refine bkN ?_ _ | refine bkD ?_ | refine bkA ?_ _)); exact BK234.out) hb); have n2_ := Zz.mk (bwP (by repeat (first | (with_reducible first | exact HB.out | apply bwA | apply pwN | apply bw1 | refine bwS ?_ GE234.out) | exact HB.out)) hb); clear BK234; clear HB; have HO239 := n0_; have BK234 := n1_; have HB := n2_; clear n0_ n1_ n2_; (try clear hb); (try clear ho0); (try clear A13)))
     have n0_ := Zz.mk (Kd.RD HO239.out); have n1_ := Zz.mk (bkD BK234.out); have n2_ := Zz.mk (bw1 HB.out); clear HO239; clear BK234; clear HB; have HO239 := n0_; have BK234 := n1_; have HB := n2_; clear n0_ n1_ n2_; obtain ⟨Ao44, co44, eo44⟩ := Kd.R_slice HO239.out; (first | subst eo44 | (injection eo44 with f1_ f2_ f3_; have f4_ := f1_.symm; have f5_ := f3_.symm; clear f1_ f2_ f3_; subst f4_; subst f5_))
     refine start_ (n := 10) (S := fun w' => w'.cell? ⟨gb234, 0, none⟩ = some (.int .i64 a1_0) ∧ w'.cell? ⟨gb234, 1, none⟩ = some (.int .i64 a1_1) ∧ w'.cell? ⟨gb234, 2, none⟩ = some (.int .i64 a1_2) ∧ w'.cell? ⟨gb234, 3, none⟩ = some (.bool a1_3)) (ds := []) #[false, false, false, false, false, false, false, false, false, false] (by kernel_rfl) rfl rfl ⟨(bkC BK234.out 0).trans rfl, (bkC BK234.out 1).trans rfl, (bkC BK234.out 2).trans rfl, (bkC BK234.out 3).trans rfl⟩ (fun hH => ?_); refine with_tabW impl_CastPut.tab4 impl_CastPut.bits4 (fun HT_ HW_ => ?_); generalize w42.drew = w43 at HO239 BK234 HB hH ⊢; refine pure_ (i := 0) (N := some 19) (v := ?_) (a' := ?_) #[true, false, false, false, false, false, false, false, false, false] rfl rfl (any_of HT_.out (by kernel_rfl)) (fun _ _ _ h => h) (Or.inl ⟨by rfl, ?_⟩) ?_ ?_; rotate_left
     ·intro w'; go_simp; with_reducible rfl
     rotate_left
     ·simp only [pS, i64_w, i32_w]; rfl
     refine pure_ (i := 2) (N := some 21) (v := ?_) (a' := ?_) #[true, false, true, false, false, false, false, false, false, false] rfl rfl (any_of HT_.out (by kernel_rfl)) (fun _ _ _ h => h) (Or.inl ⟨by rfl, ?_⟩) ?_ ?_; rotate_left
     ·intro w'; go_simp; with_reducible rfl
     rotate_left
     ·simp only [pS, i64_w, i32_w]; rfl
     refine take_ (i := 3) (N := some 22) (v := ?_) (a' := ?_) #[true, false, true, true, false, false, false, false, false, false] rfl rfl (take_ofW HT_.out HW_.out (by kernel_rfl)) (fun _ _ _ h => h) (Or.inl ⟨by rfl, ?_⟩) hH ?_ ?_; rotate_left
     ·rintro w' ⟨s0, s1, s2, s3⟩; go_simp; with_reducible rfl
     rotate_left
     ·simp only [pS, i64_w, i32_w]; rfl
     refine one_ (i := 1) (N := some 20) #[true, true, true, true, false, false, false, false, false, false] rfl rfl (one_of HT_.out (by kernel_rfl)) (by decide) (fun K hK => ?_); refine goes_ Try.func51 (by kernel_rfl) rfl #[.slice Ao44 t237.length co44] (by rfl) rfl rfl (by (try simp only [List.map_toArray, List.map_cons, List.map_nil]); first | done | rfl | (simp only [List.length_drop, List.length_take]; rfl)) ?_; with_reducible refine (impl_facts.calls kj2 _ _ t237 t240 _ ?side1 ?side2 A14.out).mono ?_
     (case side1 => repeat (first | exact (Kd.R_reads' HO239.out).2.2 | (with_reducible refine Kd.CA ?_ _) | (with_reducible refine Kd.CN ?_ _) | (with_reducible refine Kd.CD ?_)))
     (case side2 => exact (Kd.R_reads' HO239.out).2.1)
     rintro e w45 ⟨v241, rfl, ho0, hb⟩; refine ⟨_, rfl, ?_⟩; have n0_ := Zz.mk (Kd.R_below (by (with_reducible repeat (first | apply Kd.RA | apply Kd.RN | apply Kd.RD)); exact HO239.out) hb); have n1_ := Zz.mk (Kd.R_lower (Kd.R_newB ho0 (g := gb234) (o := .cells #[.int .i64 a1_0, .int .i64 a1_1, .int .i64 a1_2, .bool a1_3] 30 (0, 0)) (by (with_reducible repeat (first | refine bkN ?_ _ | refine bkD ?_ | refine bkA ?_ _)); exact BK234.out)) (bwZ (by repeat (first | (with_reducible first | exact HB.out | apply bwA | apply pwN | apply bw1 | refine bwS ?_ GE234.out) | exact HB.out)))); have n2_ := Zz.mk (bkB (g := gb234) (o := .cells #[.int .i64 a1_0, .int .i64 a1_1, .int .i64 a1_2, .bool a1_3] 30 (0, 0)) (by (with_reducible repeat (first | refine bkN ?_ _ | refine bkD ?_ | refine bkA ?_ _)); exact BK234.out) hb); have n3_ := Zz.mk (bwP (by repeat (first | (with_reducible first | exact HB.out | apply bwA | apply pwN | apply bw1 | refine bwS ?_ GE234.out) | exact HB.out)) hb); clear HO239; clear BK234; clear HB; have HO239 := n0_; have HO242 := n1_; have BK234 := n2_; have HB := n3_; clear n0_ n1_ n2_ n3_; (try clear hb)
     (try clear ho0)
     (try clear A14)
     obtain ⟨Ao46, co46, eo46⟩ := Kd.R_slice HO242.out; (first | subst eo46 | (injection eo46 with f1_ f2_ f3_; have f4_ := f1_.symm; have f5_ := f3_.symm; clear f1_ f2_ f3_; subst f4_; subst f5_))
     refine hK.out _ _ ⟨(bkC BK234.out 0).trans rfl, (bkC BK234.out 1).trans rfl, (bkC BK234.out 2).trans rfl, (bkC BK234.out 3).trans rfl⟩ (fun hH => ?_); clear hK K; refine norm_ (a' := ?_) ?_ ?_; rotate_left
     ·show Act.put _ (some 20) _ = _
      simp only [pS, i64_w, i32_w]; rfl
     refine one_ (i := 4) (N := some 23) #[true, true, true, true, true, false, false, false, false, false] rfl rfl (one_of HT_.out (by kernel_rfl)) (by decide) (fun K hK => ?_); refine goes_ Try.func56 (by kernel_rfl) rfl #[.slice Ao46 t240.length co46, .int .i64 a1_0] (by rfl) rfl rfl (by (try simp only [List.map_toArray, List.map_cons, List.map_nil]); first | done | rfl | (simp only [List.length_drop, List.length_take]; rfl)) ?_; with_reducible refine (impl_find.calls kj2 _ _ t240 a1_0 t243 false _ ?side1 ?side2 A15.out).mono ?_
     (case side1 => repeat (first | exact (Kd.R_reads' HO242.out).2.2 | (with_reducible refine Kd.CA ?_ _) | (with_reducible refine Kd.CN ?_ _) | (with_reducible refine Kd.CD ?_)))
     (case side2 => exact (Kd.R_reads' HO242.out).2.1)
     rintro e w47 ⟨rfl, hb⟩; refine ⟨_, rfl, ?_⟩; have n0_ := Zz.mk (Kd.R_below (by (with_reducible repeat (first | apply Kd.RA | apply Kd.RN | apply Kd.RD)); exact HO239.out) hb); have n1_ := Zz.mk (Kd.R_below (by (with_reducible repeat (first | apply Kd.RA | apply Kd.RN | apply Kd.RD)); exact HO242.out) hb); have n2_ := Zz.mk (bkB (g := gb234) (o := .cells #[.int .i64 a1_0, .int .i64 a1_1, .int .i64 a1_2, .bool a1_3] 30 (0, 0)) (by (with_reducible repeat (first | refine bkN ?_ _ | refine bkD ?_ | refine bkA ?_ _)); exact BK234.out) hb); have n3_ := Zz.mk (bwP (by repeat (first | (with_reducible first | exact HB.out | apply bwA | apply pwN | apply bw1 | refine bwS ?_ GE234.out) | exact HB.out)) hb); clear HO239; clear HO242; clear BK234; clear HB; have HO239 := n0_; have HO242 := n1_; have BK234 := n2_; have HB := n3_; clear n0_ n1_ n2_ n3_; (try clear hb)
     (try clear A15)
     refine hK.out _ _ ⟨(bkC BK234.out 0).trans rfl, (bkC BK234.out 1).trans rfl, (bkC BK234.out 2).trans rfl, (bkC BK234.out 3).trans rfl⟩ (fun hH => ?_); clear hK K; refine norm_ (a' := ?_) ?_ ?_; rotate_left
     ·show Act.put _ (some 23) _ = _
      simp only [pS, i64_w, i32_w]; rfl
     refine pure_ (i := 5) (N := some 18) (v := ?_) (a' := ?_) #[true, true, true, true, true, true, false, false, false, false] rfl rfl (any_of HT_.out (by kernel_rfl)) (fun _ _ _ h => h) (Or.inl ⟨by rfl, ?_⟩) ?_ ?_; rotate_left
     ·intro w'; go_simp; with_reducible rfl
     rotate_left
     ·simp only [pS, i64_w, i32_w]; rfl
     refine pure_ (i := 6) (N := some 24) (v := ?_) (a' := ?_) #[true, true, true, true, true, true, true, false, false, false] rfl rfl (any_of HT_.out (by kernel_rfl)) (fun _ _ _ h => h) (Or.inl ⟨by rfl, ?_⟩) ?_ ?_; rotate_left
     ·intro w'; go_simp; with_reducible rfl
     rotate_left
     ·simp only [pS, i64_w, i32_w]; rfl
     refine pure_ (i := 7) (N := some 25) (v := ?_) (a' := ?_) #[true, true, true, true, true, true, true, true, false, false] rfl rfl (any_of HT_.out (by kernel_rfl)) (fun _ _ _ h => h) (Or.inl ⟨by rfl, ?_⟩) ?_ ?_; rotate_left
     ·intro w'; go_simp; with_reducible rfl
     rotate_left
     ·simp only [pS, i64_w, i32_w]; rfl
     refine pure_ (i := 8) (N := some 6) (v := ?_) (a' := ?_) #[true, true, true, true, true, true, true, true, true, false] rfl rfl (any_of HT_.out (by kernel_rfl)) (fun _ _ _ h => h) (Or.inl ⟨by rfl, ?_⟩) ?_ ?_; rotate_left
     ·intro w'; go_simp; with_reducible rfl
     rotate_left
     ·simp only [pS, i64_w, i32_w]; rfl
     refine pure_ (i := 9) (N := some 7) (v := ?_) (a' := ?_) #[true, true, true, true, true, true, true, true, true, true] rfl rfl (any_of HT_.out (by kernel_rfl)) (fun _ _ _ h => h) (Or.inl ⟨by rfl, ?_⟩) ?_ ?_; rotate_left
     ·intro w'; go_simp; with_reducible rfl
     rotate_left
     ·simp only [pS, i64_w, i32_w]; rfl
     refine done_ (done_of HT_.out (by kernel_rfl)) ?_; have hcz48_0 : w47.cell? ⟨gb234, 0, none⟩ = some (.int .i64 a1_0) := (bkC BK234.out 0).trans rfl; have hcz48_1 : w47.cell? ⟨gb234, 1, none⟩ = some (.int .i64 a1_1) := (bkC BK234.out 1).trans rfl; have hcz48_2 : w47.cell? ⟨gb234, 2, none⟩ = some (.int .i64 a1_2) := (bkC BK234.out 2).trans rfl; have hcz48_3 : w47.cell? ⟨gb234, 3, none⟩ = some (.bool a1_3) := (bkC BK234.out 3).trans rfl; have hfz48_0 := bkF BK234.out 0; have hfz48_1 := bkF BK234.out 1; have hfz48_2 := bkF BK234.out 2; have hfz48_3 := bkF BK234.out 3; try go_wp2_with (first | ((with_reducible refine gate_dst (N := 33) rfl ?_); refine Kd.R_lit k57 _ 57 ?hg (N := 33) ?hd (xs := ([(⟨(⟨a1_0, a1_1, a1_2, a1_3⟩ : S30), 4⟩ : S57)] : List (S57))) (inner := [.int .i64 a1_0, .int .i64 a1_1, .int .i64 a1_2, .bool a1_3, .int .i64 4]) (ok := fun _ => True) (okp := fun _ => True) ?hr ?hp (fun _ hk => hk) trivial (Below.refl _ _) (Nat.le_refl _) (by simp) ?_; (case hd => rfl); (case hg => rfl); (case hr => first | (go_simp; done) | (go_simp; rfl)); (case hp => exact (Reps.c5 (show Kd.M k57 _ _ _ (⟨(⟨a1_0, a1_1, a1_2, a1_3⟩ : S30), 4⟩ : S57) [.int .i64 a1_0, .int .i64 a1_1, .int .i64 a1_2, .bool a1_3, .int .i64 4] from (k57_mkM _ _ _ (⟨(⟨a1_0, a1_1, a1_2, a1_3⟩ : S30), 4⟩ : S57) )) (Reps.none _ _))); intro v249 w49 ho50 hb hg_ hnew_; clear hg_ hnew_; (first | rw [← Ny248.out] at ho50 | (simp only [Int.reduceToNat] at ho50; rw [← Ny248.out] at ho50)); have n0_ := Zz.mk (Kd.R_elder' (by (with_reducible repeat (first | apply Kd.RA | apply Kd.RN | apply Kd.RD)); exact HO239.out) (Kd.R_base ho50) hb); have n1_ := Zz.mk (Kd.R_below (by (with_reducible repeat (first | apply Kd.RA | apply Kd.RN | apply Kd.RD)); exact HO242.out) hb); have n2_ := Zz.mk (Kd.R_lower (Kd.R_new' ho50 (Kd.R_lt (by (with_reducible repeat (first | apply Kd.RA | apply Kd.RN | apply Kd.RD)); exact HO239.out))) (bwZ (by repeat (first | (with_reducible first | exact HB.out | apply bwA | apply pwN | apply bw1 | refine bwS ?_ GE234.out) | exact HB.out)))); have n3_ := Zz.mk (bkB (g := gb234) (o := .cells #[.int .i64 a1_0, .int .i64 a1_1, .int .i64 a1_2, .bool a1_3] 30 (0, 0)) (by (with_reducible repeat (first | refine bkN ?_ _ | refine bkD ?_ | refine bkA ?_ _)); exact BK234.out) hb); have n4_ := Zz.mk (bwP (by repeat (first | (with_reducible first | exact HB.out | apply bwA | apply pwN | apply bw1 | refine bwS ?_ GE234.out) | exact HB.out)) hb); clear HO239; clear HO242; clear BK234; clear HB; have HO239 := n0_; have HO242 := n1_; have HO250 := n2_; have BK234 := n3_; have HB := n4_; clear n0_ n1_ n2_ n3_ n4_; clear hb ho50; obtain ⟨Ao51, co51, eo51⟩ := Kd.R_slice HO250.out; subst eo51) | ((with_reducible refine gate_callee (f := 57) rfl ?_); refine goesL_ (some 34) rfl rfl Try.func57 (by kernel_rfl) rfl #[.slice Ao44 t237.length co44, .int .i64 t243, .slice Ao51 y248.length co51] rfl (by (try simp only [List.map_toArray, List.map_cons, List.map_nil]); first | done | rfl | (simp only [List.length_drop, List.length_take]; rfl)) ?_; (with_reducible refine (impl_Item_57.calls (fun k_ => some k_ = (.slice Ao44 t237.length co44 : Value).ownBlock) (.slice Ao44 t237.length co44) t237 t243 (fun k_ => some k_ = (.slice Ao51 y248.length co51 : Value).ownBlock) (.slice Ao51 y248.length co51) y248 t251 w _ ?side1 ?side2 ?side3 ?side4 ?side5 A41.out).mono ?_); (case side1 => repeat (first | (with_reducible first | exact HB.out | apply bwA | apply pwN | apply bw1 | refine bwS ?_ GE234.out) | exact HB.out)); (case side2 => exact Kd.R_tight rfl HO239.out); (case side3 => exact fun k_ e_ => (HO239.out.1 k_ e_.symm).2); (case side4 => exact Kd.R_tight rfl HO250.out); (case side5 => exact fun k_ e_ => (HO250.out.1 k_ e_.symm).2); rintro e w52 ⟨v252, rfl, ho0, hb, hkp⟩; refine ⟨_, rfl, ?_⟩; have n0_ := Zz.mk (blk_kept (by (with_reducible repeat (first | refine bkN ?_ _ | refine bkD ?_ | refine bkA ?_ _)); exact BK234.out) hkp (fun hs_ => Or.elim hs_ (fun e_ => (fun e_ => (Kd.R_ne HO239.out BK234.out (by decide)) e_) e_) (fun e_ => (fun e_ => (Kd.R_ne HO250.out BK234.out (by decide)) e_) e_))); have n1_ := Zz.mk (Kd.R_mono (ok' := fun k_ => k_ ≠ gb234) (Kd.R_keptB ((Kd.R_apart' (Kd.R_apart' HO242.out (Kd.R_typed HO239.out) (by decide)) (Kd.R_typed HO250.out) (by decide))) hkp (fun k_ hk_ hs_ => Or.elim hs_ (fun e_ => (hk_.1.2) e_) (fun e_ => (hk_.2) e_))) (fun k_ hk_ => hk_.1.1.1.2)); have n2_ := Zz.mk (Kd.R_mono (ok' := fun k_ => True) ho0 (fun k_ hk_ => trivial)); have n3_ := Zz.mk (hb); clear BK234; clear HO242; clear HB; clear HO239; clear HO250; have BK234 := n0_; have HO242 := n1_; have HO253 := n2_; have HB := n3_; clear n0_ n1_ n2_ n3_; (try clear hb); (try clear hkp); (try clear ho0); (try clear A41)))
     go_ret
     exact ⟨_, by first | rfl | (simp [eN, eS] <;> rfl) | (simp [*, eN, eS] <;> rfl), by (with_reducible repeat (first | apply Kd.RA | apply Kd.RN | apply Kd.RD)); exact HO253.out, by repeat (first | (with_reducible first | exact HB.out | apply bwA | apply pwN | apply bw1 | refine bwS ?_ GE234.out) | exact HB.out)⟩

end Go.Proofs.Ytjaihhgkcdnhnaa.PFnCastNew
