/- Written by a program of this session (a turned copy of a tool of the kit): functions as plain functions, and that each call does what they tell. Conditions: none. -/
import Derived.Test.YtjaihhgkcdnhnaaPFnTableVersionx0
import Derived.Test.YtjaihhgkcdnhnaaPFnTableVersionx1
import Derived.Test.YtjaihhgkcdnhnaaPFnTableVersionx7
import Derived.Test.YtjaihhgkcdnhnaaPFnTableVersionx11
import Derived.Test.YtjaihhgkcdnhnaaPFnTableVersionx12
import Derived.Test.YtjaihhgkcdnhnaaPFnTableVersionx13
import Derived.Test.YtjaihhgkcdnhnaaPFnTableVersionx14
namespace Go.Proofs.Ytjaihhgkcdnhnaa.PFnTableVersion
open Go.RowKit Go.Proofs.YtjaihhgkcdnhnaaW.PrintWords Go.Proofs.YtjaihhgkcdnhnaaW.PrintLast Go.Proofs.YtjaihhgkcdnhnaaW.PrintMore
attribute [local go_sem] max2_int min2_int max_two min_two max_three min_three max_four min_four
set_option linter.unusedVariables false
set_option linter.unusedSimpArgs false

attribute [local go_sem high] eqA30
/-! ### spec_l61Table: function 64 -/
def spec_l61Table.l0 : Nat → Int → List (S30) → Int → List Int → Int → Option ((List (S30)) × Int)
 | 0, _, _, _, _, _ => none
 | k + 1, x1, x5, x6, x1000, x1001 => if x6 > 0 then (if x1 < 0 then ((spec_l1Rd_pick.f k x1000 x1001 2).bind fun bt396 => ((spec_l61Fact.f k x1000 bt396.2 bt396.1).bind fun bt398 => ((spec_l3Put.f k x5 bt398.1 bt398.2.1 bt398.2.2.1 bt398.2.2.2.1).bind fun bt403 => (spec_l61Table.l0 k x1 bt403.1 (wrap64 (x6 - 1)) x1000 bt398.2.2.2.2)))) else ((spec_l61Fact.f k x1000 x1001 x1).bind fun bt407 => ((spec_l3Put.f k x5 bt407.1 bt407.2.1 bt407.2.2.1 bt407.2.2.2.1).bind fun bt412 => (spec_l61Table.l0 k x1 bt412.1 (wrap64 (x6 - 1)) x1000 bt407.2.2.2.2)))) else (some (x5, x1001))
def spec_l61Table.f (k : Nat) (s0_0 : List Int) (s0_1 : Int) (a1 : Int) : Option ((List (S30)) × Int) := (spec_l1Rd_pick.f k s0_0 s0_1 6).bind fun bt394 => (spec_l61Table.l0 k a1 (([] : List (S30))) bt394.1 s0_0 bt394.2)
theorem spec_l61Table.mono_l : ∀ k, (∀ y0 y1 y2 y3 y4, LeO (spec_l61Table.l0 k y0 y1 y2 y3 y4) (spec_l61Table.l0 (k + 1) y0 y1 y2 y3 y4))
 | 0 => fun _ _ _ _ _ r h => by simp [spec_l61Table.l0] at h
 | k + 1 => by
  have ih0 := spec_l61Table.mono_l k
  ·intro y0 y1 y2 y3 y4
   unfold spec_l61Table.l0
   repeat' first
   | (with_reducible exact ih0 _ _ _ _ _)
   | (with_reducible exact spec_l1Rd_pick.mono _ _ _ _)
   | (with_reducible exact spec_l3Put.mono _ _ _ _ _ _)
   | (with_reducible exact spec_l61Fact.mono _ _ _ _)
   | (with_reducible exact LeO.refl _)
   | (with_reducible exact LeO.none _)
   | (with_reducible refine LeO.ite ?_ ?_)
   | (with_reducible refine LeO.bind ?_ (fun _ => ?_))
   | exact ih0 _ _ _ _ _
   | exact spec_l1Rd_pick.mono _ _ _ _
   | exact spec_l3Put.mono _ _ _ _ _ _
   | exact spec_l61Fact.mono _ _ _ _
   | exact LeO.none _
   | refine LeO.ite ?_ ?_
   | refine LeO.bind ?_ (fun _ => ?_)
theorem spec_l61Table.mono : ∀ a0 a1 a2 k, LeO (spec_l61Table.f k a0 a1 a2) (spec_l61Table.f (k + 1) a0 a1 a2) := by
 intro a0 a1 a2 k
 have ih0 := spec_l61Table.mono_l k
 unfold spec_l61Table.f
 repeat' first
   | (with_reducible exact ih0 _ _ _ _ _)
   | (with_reducible exact spec_l1Rd_pick.mono _ _ _ _)
   | (with_reducible exact spec_l3Put.mono _ _ _ _ _ _)
   | (with_reducible exact spec_l61Fact.mono _ _ _ _)
   | (with_reducible exact LeO.refl _)
   | (with_reducible exact LeO.none _)
   | (with_reducible refine LeO.ite ?_ ?_)
   | (with_reducible refine LeO.bind ?_ (fun _ => ?_))
   | exact ih0 _ _ _ _ _
   | exact spec_l1Rd_pick.mono _ _ _ _
   | exact spec_l3Put.mono _ _ _ _ _ _
   | exact spec_l61Fact.mono _ _ _ _
   | exact LeO.none _
   | refine LeO.ite ?_ ?_
   | refine LeO.bind ?_ (fun _ => ?_)
set_option maxHeartbeats 8000000 in
set_option maxRecDepth 100000 in
theorem spec_l61Table.calls (k : Nat) (g : Nat) (s0_0 : List Int) (s0_1 : Int) (a1 : Int) (r1 : List (S30)) (r2 : Int) (w0 w : World) (hI : IsS81 w0 w g s0_0 s0_1) (hB : Below w0.heap.size w0 w) (h : spec_l61Table.f k s0_0 s0_1 a1 = some (r1, r2)) :
  Calls Try.prog 64 #[.pointer (some ⟨g, 0, none⟩), .int .i64 a1] w fun e w' => ∃ v0_ : Value, e = .returned (v0_) ∧ Kd.R k30 30 w' w.heap.size (fun _ => True) v0_ r1 ∧ IsS81 w0 w' g s0_0 r2 ∧ Below w0.heap.size w0 w' ∧ KeepBut w w' g none := by
 have HI0 := Zz.mk hI
 have HK := Zz.mk (KeepBut.refl w g none)
 have HL := Zz.mk hB.size
 clear hI
 have HW0 := Zz.mk hB.size
 have HB := Zz.mk hB
 clear hB
 have H : ((spec_l1Rd_pick.f k s0_0 s0_1 6).bind fun bt394 => (spec_l61Table.l0 k a1 (([] : List (S30))) bt394.1 s0_0 bt394.2)) = some (r1, r2) := h
 clear h
 obtain ⟨y391, hy391⟩ : ∃ y_ : List (S30), y_ = (([] : List (S30))) := ⟨_, rfl⟩
 replace H : ((spec_l1Rd_pick.f k s0_0 s0_1 6).bind fun bt394 => (spec_l61Table.l0 k a1 y391 bt394.1 s0_0 bt394.2)) = some (r1, r2) := by first | (rw [hy391]; with_reducible exact H) | (replace H := (Option.bind_some _ _).symm.trans H; first | (rw [hy391]; with_reducible exact H) | with_reducible exact H) | with_reducible exact H | (rw [hy391]; exact H) | exact H
 have Ny391 := Zz.mk hy391
 clear hy391
 replace H := Option.bind_eq_some_iff.mp H
 obtain ⟨⟨t394, t395⟩, A30, H⟩ := H
 replace H : (spec_l61Table.l0 k a1 y391 t394 s0_0 t395) = some (r1, r2) := H
 have A3 := Zz.mk A30
 clear A30
 have H' := Zz.mk H
 clear H
 go_enter Try.func64, Try.ntmps64
 go_wp2_with (first | ((with_reducible refine gate_dst (N := 8) rfl ?_); refine Kd.R_lit k30 _ 30 ?hg (N := 8) ?hd (xs := ([] : List (S30))) (inner := []) (ok := fun _ => True) (okp := fun _ => True) ?hr ?hp (fun _ hk => hk) trivial (Below.refl _ _) (Nat.le_refl _) (by simp) ?_; (case hd => rfl); (case hg => rfl); (case hr => first | (go_simp; done) | (go_simp; rfl)); (case hp => exact (Reps.none _ _)); intro v392 w4 ho5 hb hg_ hnew_; clear hg_ hnew_; (first | rw [← Ny391.out] at ho5 | (simp only [Int.reduceToNat] at ho5; rw [← Ny391.out] at ho5)); have n0_ := Zz.mk (Kd.R_lower ho5 (keep_size (w := w) (g := g) (row := none) (by repeat (first | (with_reducible first | exact HK.out | apply KeepBut.set_ | apply kpN | apply kpD | apply kpA) | exact HK.out)))); have n1_ := Zz.mk (IsS81.below (by repeat (first | (with_reducible first | exact HI0.out | apply IsS81.alloc | apply IsS81.drewN | apply IsS81.drew | apply IsS81.set_1) | exact HI0.out)) hb); have n2_ := Zz.mk (KeepBut.trans (by repeat (first | (with_reducible first | exact HK.out | apply KeepBut.set_ | apply kpN | apply kpD | apply kpA) | exact HK.out)) (KeepBut.of_below hb g none) (.inl rfl)); have n3_ := Zz.mk (bwP (by repeat (first | (with_reducible first | exact HB.out | apply bwA | apply pwN | apply bw1 | refine bwS ?_ (IsS81.ge HI0.out)) | exact HB.out)) hb); clear HI0; clear HK; clear HB; have HO393 := n0_; have HI0 := n1_; have HK := n2_; have HB := n3_; clear n0_ n1_ n2_ n3_; clear hb ho5) | ((with_reducible refine gate_callee (f := 65) rfl ?_); refine goesL_ (some 10) rfl rfl Try.func65 (by kernel_rfl) rfl #[.pointer (some ⟨g, 0, none⟩), .int .i64 6] rfl (by (try simp only [List.map_toArray, List.map_cons, List.map_nil]); first | done | rfl | (simp only [List.length_drop, List.length_take]; rfl)) ?_; (with_reducible refine (spec_l1Rd_pick.calls k g s0_0 s0_1 6 t394 t395 w0 _ ?side1 ?side2 A3.out).mono ?_); (case side1 => repeat (first | (with_reducible first | exact HI0.out | apply IsS81.alloc | apply IsS81.drewN | apply IsS81.drew | apply IsS81.set_1) | exact HI0.out)); (case side2 => repeat (first | (with_reducible first | exact HB.out | apply bwA | apply pwN | apply bw1 | refine bwS ?_ (IsS81.ge HI0.out)) | exact HB.out)); rintro e w6 ⟨rfl, hi, hb, hk⟩; refine ⟨_, rfl, ?_⟩; have n0_ := Zz.mk (Kd.R_mono (Kd.R_keep (IsS81.apart (show IsS81 w0 _ g s0_0 s0_1 from by repeat (first | (with_reducible first | exact HI0.out | apply IsS81.alloc | apply IsS81.drewN | apply IsS81.drew | apply IsS81.set_1) | exact HI0.out)) (by (with_reducible repeat (first | apply Kd.R_alloc | apply Kd.R_drewN | apply Kd.R_drew)); exact HO393.out) (by decide)) hk (fun _ h => h.2)) (fun _ h => h.1)); have n1_ := Zz.mk (KeepBut.trans (by repeat (first | (with_reducible first | exact HK.out | apply KeepBut.set_ | apply kpN | apply kpD | apply kpA) | exact HK.out)) hk (.inl rfl)); have n2_ := Zz.mk (hb); have n3_ := Zz.mk (hi); clear HO393; clear HK; clear HB; clear HI0; have HO393 := n0_; have HK := n1_; have HB := n2_; have HI0 := n3_; clear n0_ n1_ n2_ n3_; (try clear hb); (try clear hb2); (try clear hk); (try clear hi); (try clear A3)))
 go_loopg [5, 6] k (fun kq v5 v6 w' => ∃ (x5_1 : List (S30)) (x6_1 : Int) (x1001_1 : Int), v6 = .int .i64 x6_1 ∧ Zz (spec_l61Table.l0 kq a1 x5_1 x6_1 s0_0 x1001_1 = some (r1, r2)) ∧ Zz (kq ≤ k) ∧ Zz (Kd.R k30 30 w' w.heap.size (fun _ => True) v5 x5_1) ∧ Zz (IsS81 w0 w' g s0_0 x1001_1) ∧ Zz (KeepBut w w' g none) ∧ Zz (Below w0.heap.size w0 w'))
 case atStart => exact ⟨(y391), (t394), (t395), (by first | rfl | (simp; done) | (simp [*]; done)), H', ⟨Nat.le_refl _⟩, ⟨by (with_reducible repeat (first | apply Kd.R_alloc | apply Kd.R_drewN | apply Kd.R_drew)); exact HO393.out⟩, ⟨by repeat (first | (with_reducible first | exact HI0.out | apply IsS81.alloc | apply IsS81.drewN | apply IsS81.drew | apply IsS81.set_1) | exact HI0.out)⟩, ⟨by repeat (first | (with_reducible first | exact HK.out | apply KeepBut.set_ | apply kpN | apply kpD | apply kpA) | exact HK.out)⟩, ⟨by repeat (first | (with_reducible first | exact HB.out | apply bwA | apply pwN | apply bw1 | refine bwS ?_ (IsS81.ge HI0.out)) | exact HB.out)⟩⟩
 case round =>
  clear H'
  try clear p2
  try clear c6
  obtain ⟨x5_1, x6_1, x1001_1, rfl, HA, HK1, HO_5, HI0, HK, HB⟩ := hrel
  cases gk with
  | zero => exact absurd HA.out (by simp [spec_l61Table.l0])
  | succ k1 =>
   have H := HA.out
   clear HA
   simp only [spec_l61Table.l0] at H
   by_cases c7 : x6_1 > 0
   ·rw [if_pos c7] at H
    have c7b0 : decide (0 < x6_1) = true := decide_eq_true c7
    clear c7
    by_cases c8 : a1 < 0
    ·rw [if_pos c8] at H
     have c8b0 : decide (a1 < 0) = true := decide_eq_true c8
     clear c8
     replace H := Option.bind_eq_some_iff.mp H
     obtain ⟨⟨t396, t397⟩, A90, H⟩ := H
     replace H : ((spec_l61Fact.f k1 s0_0 t397 t396).bind fun bt398 => ((spec_l3Put.f k1 x5_1 bt398.1 bt398.2.1 bt398.2.2.1 bt398.2.2.2.1).bind fun bt403 => (spec_l61Table.l0 k1 a1 bt403.1 (wrap64 (x6_1 - 1)) s0_0 bt398.2.2.2.2))) = some (r1, r2) := H
     have A9 := Zz.mk A90
     clear A90
     replace H := Option.bind_eq_some_iff.mp H
     obtain ⟨⟨t398, t399, t400, t401, t402⟩, A100, H⟩ := H
     replace H : ((spec_l3Put.f k1 x5_1 t398 t399 t400 t401).bind fun bt403 => (spec_l61Table.l0 k1 a1 bt403.1 (wrap64 (x6_1 - 1)) s0_0 t402)) = some (r1, r2) := H
     have A10 := Zz.mk A100
     clear A100
     replace H := Option.bind_eq_some_iff.mp H
     obtain ⟨⟨t403, t406⟩, A110, H⟩ := H
     replace H : (spec_l61Table.l0 k1 a1 t403 (wrap64 (x6_1 - 1)) s0_0 t402) = some (r1, r2) := H
     have A11 := Zz.mk A110
     clear A110
     have H' := Zz.mk H
     clear H
     go_wp2_with (first | ((with_reducible refine gate_callee (f := 65) rfl ?_); refine goesL_ (some 19) rfl rfl Try.func65 (by kernel_rfl) rfl #[.pointer (some ⟨g, 0, none⟩), .int .i64 2] rfl (by (try simp only [List.map_toArray, List.map_cons, List.map_nil]); first | done | rfl | (simp only [List.length_drop, List.length_take]; rfl)) ?_; (with_reducible refine (spec_l1Rd_pick.calls k1 g s0_0 x1001_1 2 t396 t397 w0 _ ?side1 ?side2 A9.out).mono ?_); (case side1 => repeat (first | (with_reducible first | exact HI0.out | apply IsS81.alloc | apply IsS81.drewN | apply IsS81.drew | apply IsS81.set_1) | exact HI0.out)); (case side2 => repeat (first | (with_reducible first | exact HB.out | apply bwA | apply pwN | apply bw1 | refine bwS ?_ (IsS81.ge HI0.out)) | exact HB.out)); rintro e w12 ⟨rfl, hi, hb, hk⟩; refine ⟨_, rfl, ?_⟩; have n0_ := Zz.mk (Kd.R_mono (Kd.R_keep (IsS81.apart (show IsS81 w0 _ g s0_0 x1001_1 from by repeat (first | (with_reducible first | exact HI0.out | apply IsS81.alloc | apply IsS81.drewN | apply IsS81.drew | apply IsS81.set_1) | exact HI0.out)) (by (with_reducible repeat (first | apply Kd.R_alloc | apply Kd.R_drewN | apply Kd.R_drew)); exact HO_5.out) (by decide)) hk (fun _ h => h.2)) (fun _ h => h.1)); have n1_ := Zz.mk (KeepBut.trans (by repeat (first | (with_reducible first | exact HK.out | apply KeepBut.set_ | apply kpN | apply kpD | apply kpA) | exact HK.out)) hk (.inl rfl)); have n2_ := Zz.mk (hb); have n3_ := Zz.mk (hi); clear HO_5; clear HK; clear HB; clear HI0; have HO_5 := n0_; have HK := n1_; have HB := n2_; have HI0 := n3_; clear n0_ n1_ n2_ n3_; (try clear hb); (try clear hb2); (try clear hk); (try clear hi); (try clear A9)) | ((with_reducible refine gate_callee (f := 66) rfl ?_); refine goesL_ (some 24) rfl rfl Try.func66 (by kernel_rfl) rfl #[.pointer (some ⟨g, 0, none⟩), .int .i64 t396] rfl (by (try simp only [List.map_toArray, List.map_cons, List.map_nil]); first | done | rfl | (simp only [List.length_drop, List.length_take]; rfl)) ?_; (with_reducible refine (spec_l61Fact.calls k1 g s0_0 t397 t396 t398 t399 t400 t401 t402 w0 _ ?side1 ?side2 A10.out).mono ?_); (case side1 => repeat (first | (with_reducible first | exact HI0.out | apply IsS81.alloc | apply IsS81.drewN | apply IsS81.drew | apply IsS81.set_1) | exact HI0.out)); (case side2 => repeat (first | (with_reducible first | exact HB.out | apply bwA | apply pwN | apply bw1 | refine bwS ?_ (IsS81.ge HI0.out)) | exact HB.out)); rintro e w13 ⟨rfl, hi, hb, hk⟩; refine ⟨_, rfl, ?_⟩; have n0_ := Zz.mk (Kd.R_mono (Kd.R_keep (IsS81.apart (show IsS81 w0 _ g s0_0 t397 from by repeat (first | (with_reducible first | exact HI0.out | apply IsS81.alloc | apply IsS81.drewN | apply IsS81.drew | apply IsS81.set_1) | exact HI0.out)) (by (with_reducible repeat (first | apply Kd.R_alloc | apply Kd.R_drewN | apply Kd.R_drew)); exact HO_5.out) (by decide)) hk (fun _ h => h.2)) (fun _ h => h.1)); have n1_ := Zz.mk (KeepBut.trans (by repeat (first | (with_reducible first | exact HK.out | apply KeepBut.set_ | apply kpN | apply kpD | apply kpA) | exact HK.out)) hk (.inl rfl)); have n2_ := Zz.mk (hb); have n3_ := Zz.mk (hi); clear HO_5; clear HK; clear HB; clear HI0; have HO_5 := n0_; have HK := n1_; have HB := n2_; have HI0 := n3_; clear n0_ n1_ n2_ n3_; (try clear hb); (try clear hb2); (try clear hk); (try clear hi); (try clear A10); obtain ⟨Ao14, co14, eo14⟩ := Kd.R_slice HO_5.out; subst eo14) | ((with_reducible refine gate_callee (f := 38) rfl ?_); refine goesL_ (some 25) rfl rfl Try.func38 (by kernel_rfl) rfl #[.slice Ao14 x5_1.length co14, .agg #[.int .i64 t398, .int .i64 t399, .int .i64 t400, .bool t401]] rfl (by (try simp only [List.map_toArray, List.map_cons, List.map_nil]); first | done | rfl | (simp only [List.length_drop, List.length_take]; rfl)) ?_; (with_reducible refine (spec_l3Put.calls k1 (fun k_ => some k_ = (.slice Ao14 x5_1.length co14 : Value).ownBlock) (.slice Ao14 x5_1.length co14) x5_1 t398 t399 t400 t401 t403 t406 w0 _ ?side1 ?side2 A11.out).mono ?_); (case side1 => repeat (first | (with_reducible first | exact HB.out | apply bwA | apply pwN | apply bw1 | refine bwS ?_ (IsS81.ge HI0.out)) | exact HB.out)); (case side2 => exact Kd.R_lower (Kd.R_tight rfl HO_5.out) HL.out); rintro e w15 ⟨v404, rfl, ho0, hb, hkp⟩; refine ⟨_, rfl, ?_⟩; have n0_ := Zz.mk (IsS81.kept (by repeat (first | (with_reducible first | exact HI0.out | apply IsS81.alloc | apply IsS81.drewN | apply IsS81.drew | apply IsS81.set_1) | exact HI0.out)) hkp (fun hs_ => (fun e_ => (IsS81.own_ne HI0.out HO_5.out (by decide)) e_) hs_)); have n1_ := Zz.mk (Kd.R_mono (ok' := fun k_ => True) (Kd.R_raise (d := k30) (b := w0.heap.size) (b' := w.heap.size) (fun _ _ _ _ h_ => h_) ho0 (fun k_ e_ => Or.elim (ho0.1 k_ e_) (fun hs_ => (fun e_ => Kd.R_base HO_5.out k_ e_.symm) hs_) (fun hn_ => Nat.le_trans (keep_size (w := w) (g := g) (row := none) (by repeat (first | (with_reducible first | exact HK.out | apply KeepBut.set_ | apply kpN | apply kpD | apply kpA) | exact HK.out))) hn_))) (fun k_ hk_ => trivial)); have n2_ := Zz.mk (Kept.keepG (by repeat (first | (with_reducible first | exact HK.out | apply KeepBut.set_ | apply kpN | apply kpD | apply kpA) | exact HK.out)) hkp (fun k_ hs_ => (fun e_ => .inr (Kd.R_base HO_5.out k_ e_.symm)) hs_)); have n3_ := Zz.mk (hb); clear HI0; clear HK; clear HB; clear HO_5; have HI0 := n0_; have HO405 := n1_; have HK := n2_; have HB := n3_; clear n0_ n1_ n2_ n3_; (try clear hb); (try clear hkp); (try clear ho0); (try clear A11)))
     go_roundg k1
     case measure => have := HK1.out; omega
     case rel => exact ⟨(t403), (wrap64 (x6_1 - 1)), (t402), (by first | rfl | (simp; done) | (simp [*]; done)), H', ⟨by have := HK1.out; omega⟩, ⟨by (with_reducible repeat (first | apply Kd.R_alloc | apply Kd.R_drewN | apply Kd.R_drew)); exact HO405.out⟩, ⟨by repeat (first | (with_reducible first | exact HI0.out | apply IsS81.alloc | apply IsS81.drewN | apply IsS81.drew | apply IsS81.set_1) | exact HI0.out)⟩, ⟨by repeat (first | (with_reducible first | exact HK.out | apply KeepBut.set_ | apply kpN | apply kpD | apply kpA) | exact HK.out)⟩, ⟨by repeat (first | (with_reducible first | exact HB.out | apply bwA | apply pwN | apply bw1 | refine bwS ?_ (IsS81.ge HI0.out)) | exact HB.out)⟩⟩
    ·rw [if_neg c8] at H
     have c8b0 : decide (a1 < 0) = false := decide_eq_false c8
     clear c8
     replace H := Option.bind_eq_some_iff.mp H
     obtain ⟨⟨t407, t408, t409, t410, t411⟩, A160, H⟩ := H
     replace H : ((spec_l3Put.f k1 x5_1 t407 t408 t409 t410).bind fun bt412 => (spec_l61Table.l0 k1 a1 bt412.1 (wrap64 (x6_1 - 1)) s0_0 t411)) = some (r1, r2) := H
     have A16 := Zz.mk A160
     clear A160
     replace H := Option.bind_eq_some_iff.mp H
     obtain ⟨⟨t412, t415⟩, A170, H⟩ := H
     replace H : (spec_l61Table.l0 k1 a1 t412 (wrap64 (x6_1 - 1)) s0_0 t411) = some (r1, r2) := H
     have A17 := Zz.mk A170
     clear A170
     have H' := Zz.mk H
     clear H
     go_wp2_with (first | ((with_reducible refine gate_callee (f := 66) rfl ?_); refine goesL_ (some 24) rfl rfl Try.func66 (by kernel_rfl) rfl #[.pointer (some ⟨g, 0, none⟩), .int .i64 a1] rfl (by (try simp only [List.map_toArray, List.map_cons, List.map_nil]); first | done | rfl | (simp only [List.length_drop, List.length_take]; rfl)) ?_; (with_reducible refine (spec_l61Fact.calls k1 g s0_0 x1001_1 a1 t407 t408 t409 t410 t411 w0 _ ?side1 ?side2 A16.out).mono ?_); (case side1 => repeat (first | (with_reducible first | exact HI0.out | apply IsS81.alloc | apply IsS81.drewN | apply IsS81.drew | apply IsS81.set_1) | exact HI0.out)); (case side2 => repeat (first | (with_reducible first | exact HB.out | apply bwA | apply pwN | apply bw1 | refine bwS ?_ (IsS81.ge HI0.out)) | exact HB.out)); rintro e w18 ⟨rfl, hi, hb, hk⟩; refine ⟨_, rfl, ?_⟩; have n0_ := Zz.mk (Kd.R_mono (Kd.R_keep (IsS81.apart (show IsS81 w0 _ g s0_0 x1001_1 from by repeat (first | (with_reducible first | exact HI0.out | apply IsS81.alloc | apply IsS81.drewN | apply IsS81.drew | apply IsS81.set_1) | exact HI0.out)) (by (with_reducible repeat (first | apply Kd.R_alloc | apply Kd.R_drewN | apply Kd.R_drew)); exact HO_5.out) (by decide)) hk (fun _ h => h.2)) (fun _ h => h.1)); have n1_ := Zz.mk (KeepBut.trans (by repeat (first | (with_reducible first | exact HK.out | apply KeepBut.set_ | apply kpN | apply kpD | apply kpA) | exact HK.out)) hk (.inl rfl)); have n2_ := Zz.mk (hb); have n3_ := Zz.mk (hi); clear HO_5; clear HK; clear HB; clear HI0; have HO_5 := n0_; have HK := n1_; have HB := n2_; have HI0 := n3_; clear n0_ n1_ n2_ n3_; (try clear hb); (try clear hb2); (try clear hk); (try clear hi); (try clear A16); obtain ⟨Ao19, co19, eo19⟩ := Kd.R_slice HO_5.out; subst eo19) | ((with_reducible refine gate_callee (f := 38) rfl ?_); refine goesL_ (some 25) rfl rfl Try.func38 (by kernel_rfl) rfl #[.slice Ao19 x5_1.length co19, .agg #[.int .i64 t407, .int .i64 t408, .int .i64 t409, .bool t410]] rfl (by (try simp only [List.map_toArray, List.map_cons, List.map_nil]); first | done | rfl | (simp only [List.length_drop, List.length_take]; rfl)) ?_; (with_reducible refine (spec_l3Put.calls k1 (fun k_ => some k_ = (.slice Ao19 x5_1.length co19 : Value).ownBlock) (.slice Ao19 x5_1.length co19) x5_1 t407 t408 t409 t410 t412 t415 w0 _ ?side1 ?side2 A17.out).mono ?_); (case side1 => repeat (first | (with_reducible first | exact HB.out | apply bwA | apply pwN | apply bw1 | refine bwS ?_ (IsS81.ge HI0.out)) | exact HB.out)); (case side2 => exact Kd.R_lower (Kd.R_tight rfl HO_5.out) HL.out); rintro e w20 ⟨v413, rfl, ho0, hb, hkp⟩; refine ⟨_, rfl, ?_⟩; have n0_ := Zz.mk (IsS81.kept (by repeat (first | (with_reducible first | exact HI0.out | apply IsS81.alloc | apply IsS81.drewN | apply IsS81.drew | apply IsS81.set_1) | exact HI0.out)) hkp (fun hs_ => (fun e_ => (IsS81.own_ne HI0.out HO_5.out (by decide)) e_) hs_)); have n1_ := Zz.mk (Kd.R_mono (ok' := fun k_ => True) (Kd.R_raise (d := k30) (b := w0.heap.size) (b' := w.heap.size) (fun _ _ _ _ h_ => h_) ho0 (fun k_ e_ => Or.elim (ho0.1 k_ e_) (fun hs_ => (fun e_ => Kd.R_base HO_5.out k_ e_.symm) hs_) (fun hn_ => Nat.le_trans (keep_size (w := w) (g := g) (row := none) (by repeat (first | (with_reducible first | exact HK.out | apply KeepBut.set_ | apply kpN | apply kpD | apply kpA) | exact HK.out))) hn_))) (fun k_ hk_ => trivial)); have n2_ := Zz.mk (Kept.keepG (by repeat (first | (with_reducible first | exact HK.out | apply KeepBut.set_ | apply kpN | apply kpD | apply kpA) | exact HK.out)) hkp (fun k_ hs_ => (fun e_ => .inr (Kd.R_base HO_5.out k_ e_.symm)) hs_)); have n3_ := Zz.mk (hb); clear HI0; clear HK; clear HB; clear HO_5; have HI0 := n0_; have HO414 := n1_; have HK := n2_; have HB := n3_; clear n0_ n1_ n2_ n3_; (try clear hb); (try clear hkp); (try clear ho0); (try clear A17)))
     go_roundg k1
     case measure => have := HK1.out; omega
     case rel => exact ⟨(t412), (wrap64 (x6_1 - 1)), (t411), (by first | rfl | (simp; done) | (simp [*]; done)), H', ⟨by have := HK1.out; omega⟩, ⟨by (with_reducible repeat (first | apply Kd.R_alloc | apply Kd.R_drewN | apply Kd.R_drew)); exact HO414.out⟩, ⟨by repeat (first | (with_reducible first | exact HI0.out | apply IsS81.alloc | apply IsS81.drewN | apply IsS81.drew | apply IsS81.set_1) | exact HI0.out)⟩, ⟨by repeat (first | (with_reducible first | exact HK.out | apply KeepBut.set_ | apply kpN | apply kpD | apply kpA) | exact HK.out)⟩, ⟨by repeat (first | (with_reducible first | exact HB.out | apply bwA | apply pwN | apply bw1 | refine bwS ?_ (IsS81.ge HI0.out)) | exact HB.out)⟩⟩
   ·rw [if_neg c7] at H
    have c7b0 : decide (0 < x6_1) = false := decide_eq_false c7
    clear c7
    simp only [Option.some.injEq, Prod.mk.injEq] at H
    obtain ⟨rfl, rfl⟩ := H
    go_wp2
    go_ret
    exact ⟨_, by first | rfl | (simp [*, errW_none, errW_some] <;> rfl), by (with_reducible repeat (first | apply Kd.R_alloc | apply Kd.R_drewN | apply Kd.R_drew)); exact HO_5.out, by repeat (first | (with_reducible first | exact HI0.out | apply IsS81.alloc | apply IsS81.drewN | apply IsS81.drew | apply IsS81.set_1) | exact HI0.out), by repeat (first | (with_reducible first | exact HB.out | apply bwA | apply pwN | apply bw1 | refine bwS ?_ (IsS81.ge HI0.out)) | exact HB.out), by repeat (first | (with_reducible first | exact HK.out | apply KeepBut.set_ | apply kpN | apply kpD | apply kpA) | exact HK.out)⟩

/-! ### spec_l61AnyTable: function 45 -/
def spec_l61AnyTable.j0 : Nat → List (S30) → Bool → List Int → Int → Option ((List (S30)) × Int)
 | 0, _, _, _, _ => none
 | k + 1, x3, x14, x1000, x1001 => if x14 = true then ((spec_l1Rd_pick.f k x1000 x1001 (x3.length : Int)).bind fun bt422 => ((spec_l1Rd_pick.f k x1000 bt422.2 3).bind fun bt424 => (if bt424.1 = 0 then ((spec_l61AnyFact.f k x1000 bt424.2).bind fun bt426 => (if 0 ≤ bt422.1 then (if bt422.1 < (x3.length : Int) then (some ((x3.set (bt422.1 : Int).toNat (⟨bt426.1, bt426.2.1, bt426.2.2.1, bt426.2.2.2.1⟩ : S30)), bt426.2.2.2.2)) else (none)) else (none))) else (if bt424.1 = 1 then (if 0 ≤ bt422.1 then (if bt422.1 < (x3.length : Int) then (if x3.length < 4398046511104 then (some ((x3 ++ [(⟨(rd_T30 x3 bt422.1).f0, (rd_T30 x3 bt422.1).f1, (rd_T30 x3 bt422.1).f2, (rd_T30 x3 bt422.1).f3⟩ : S30)]), bt424.2)) else (none)) else (none)) else (none)) else (if 0 ≤ bt422.1 then (if bt422.1 < (x3.length : Int) then (some ((x3.set (bt422.1 : Int).toNat (⟨(rd_T30 x3 bt422.1).f0, (rd_T30 x3 bt422.1).f1, 0, (rd_T30 x3 bt422.1).f3⟩ : S30)), bt424.2)) else (none)) else (none)))))) else (some (x3, x1001))
def spec_l61AnyTable.f (k : Nat) (s0_0 : List Int) (s0_1 : Int) : Option ((List (S30)) × Int) := (spec_l61Table.f k s0_0 s0_1 (-1)).bind fun bt416 => (if (bt416.1.length : Int) > 0 then ((spec_l1Rd_pick.f k s0_0 bt416.2 12).bind fun bt420 => (spec_l61AnyTable.j0 k bt416.1 (bt420.1 == 0) s0_0 bt420.2)) else (spec_l61AnyTable.j0 k bt416.1 false s0_0 bt416.2))
theorem spec_l61AnyTable.mono_l : ∀ k, (∀ y0 y1 y2 y3, LeO (spec_l61AnyTable.j0 k y0 y1 y2 y3) (spec_l61AnyTable.j0 (k + 1) y0 y1 y2 y3))
 | 0 => fun _ _ _ _ r h => by simp [spec_l61AnyTable.j0] at h
 | k + 1 => by
  have ih0 := spec_l61AnyTable.mono_l k
  ·intro y0 y1 y2 y3
   unfold spec_l61AnyTable.j0
   repeat' first
   | (with_reducible exact ih0 _ _ _ _)
   | (with_reducible exact spec_l1Rd_pick.mono _ _ _ _)
   | (with_reducible exact spec_l61AnyFact.mono _ _ _)
   | (with_reducible exact spec_l61Table.mono _ _ _ _)
   | (with_reducible exact LeO.refl _)
   | (with_reducible exact LeO.none _)
   | (with_reducible refine LeO.ite ?_ ?_)
   | (with_reducible refine LeO.bind ?_ (fun _ => ?_))
   | exact ih0 _ _ _ _
   | exact spec_l1Rd_pick.mono _ _ _ _
   | exact spec_l61AnyFact.mono _ _ _
   | exact spec_l61Table.mono _ _ _ _
   | exact LeO.none _
   | refine LeO.ite ?_ ?_
   | refine LeO.bind ?_ (fun _ => ?_)
theorem spec_l61AnyTable.mono : ∀ a0 a1 k, LeO (spec_l61AnyTable.f k a0 a1) (spec_l61AnyTable.f (k + 1) a0 a1) := by
 intro a0 a1 k
 have ih0 := spec_l61AnyTable.mono_l k
 unfold spec_l61AnyTable.f
 repeat' first
   | (with_reducible exact ih0 _ _ _ _)
   | (with_reducible exact spec_l1Rd_pick.mono _ _ _ _)
   | (with_reducible exact spec_l61AnyFact.mono _ _ _)
   | (with_reducible exact spec_l61Table.mono _ _ _ _)
   | (with_reducible exact LeO.refl _)
   | (with_reducible exact LeO.none _)
   | (with_reducible refine LeO.ite ?_ ?_)
   | (with_reducible refine LeO.bind ?_ (fun _ => ?_))
   | exact ih0 _ _ _ _
   | exact spec_l1Rd_pick.mono _ _ _ _
   | exact spec_l61AnyFact.mono _ _ _
   | exact spec_l61Table.mono _ _ _ _
   | exact LeO.none _
   | refine LeO.ite ?_ ?_
   | refine LeO.bind ?_ (fun _ => ?_)
set_option maxHeartbeats 8000000 in
set_option maxRecDepth 100000 in
theorem spec_l61AnyTable.calls (k : Nat) (g : Nat) (s0_0 : List Int) (s0_1 : Int) (r1 : List (S30)) (r2 : Int) (w0 w : World) (hI : IsS81 w0 w g s0_0 s0_1) (hB : Below w0.heap.size w0 w) (h : spec_l61AnyTable.f k s0_0 s0_1 = some (r1, r2)) :
  Calls Try.prog 45 #[.pointer (some ⟨g, 0, none⟩)] w fun e w' => ∃ v0_ : Value, e = .returned (v0_) ∧ Kd.R k30 30 w' w.heap.size (fun _ => True) v0_ r1 ∧ IsS81 w0 w' g s0_0 r2 ∧ Below w0.heap.size w0 w' ∧ KeepBut w w' g none := by
 have hu30 := Try.underlying30
 have HI0 := Zz.mk hI
 have HK := Zz.mk (KeepBut.refl w g none)
 have HL := Zz.mk hB.size
 clear hI
 have HW0 := Zz.mk hB.size
 have HB := Zz.mk hB
 clear hB
 have H : ((spec_l61Table.f k s0_0 s0_1 (-1)).bind fun bt416 => (if (bt416.1.length : Int) > 0 then ((spec_l1Rd_pick.f k s0_0 bt416.2 12).bind fun bt420 => (spec_l61AnyTable.j0 k bt416.1 (bt420.1 == 0) s0_0 bt420.2)) else (spec_l61AnyTable.j0 k bt416.1 false s0_0 bt416.2))) = some (r1, r2) := h
 clear h
 replace H := Option.bind_eq_some_iff.mp H
 obtain ⟨⟨t416, t419⟩, A20, H⟩ := H
 replace H : (if (t416.length : Int) > 0 then ((spec_l1Rd_pick.f k s0_0 t419 12).bind fun bt420 => (spec_l61AnyTable.j0 k t416 (bt420.1 == 0) s0_0 bt420.2)) else (spec_l61AnyTable.j0 k t416 false s0_0 t419)) = some (r1, r2) := H
 have A2 := Zz.mk A20
 clear A20
 have HC3 := Zz.mk H
 clear H
 go_enter Try.func45, Try.ntmps45
 go_upto_region 2 with (first | ((with_reducible refine gate_callee (f := 64) rfl ?_); refine goesL_ (some 6) rfl rfl Try.func64 (by kernel_rfl) rfl #[.pointer (some ⟨g, 0, none⟩), .int .i64 (-1)] rfl (by (try simp only [List.map_toArray, List.map_cons, List.map_nil]); first | done | rfl | (simp only [List.length_drop, List.length_take]; rfl)) ?_; (with_reducible refine (spec_l61Table.calls k g s0_0 s0_1 (-1) t416 t419 w0 _ ?side1 ?side2 A2.out).mono ?_); (case side1 => repeat (first | (with_reducible first | exact HI0.out | apply IsS81.alloc | apply IsS81.drewN | apply IsS81.drew | apply IsS81.set_1) | exact HI0.out)); (case side2 => repeat (first | (with_reducible first | exact HB.out | apply bwA | apply pwN | apply bw1 | refine bwS ?_ (IsS81.ge HI0.out)) | exact HB.out)); rintro e w4 ⟨v417, rfl, ho0, hi, hb, hk⟩; refine ⟨_, rfl, ?_⟩; have n0_ := Zz.mk (Kd.R_lower ho0 (keep_size (w := w) (g := g) (row := none) (by repeat (first | (with_reducible first | exact HK.out | apply KeepBut.set_ | apply kpN | apply kpD | apply kpA) | exact HK.out)))); have n1_ := Zz.mk (KeepBut.trans (by repeat (first | (with_reducible first | exact HK.out | apply KeepBut.set_ | apply kpN | apply kpD | apply kpA) | exact HK.out)) hk (.inl rfl)); have n2_ := Zz.mk (hb); have n3_ := Zz.mk (hi); clear HK; clear HB; clear HI0; have HO418 := n0_; have HK := n1_; have HB := n2_; have HI0 := n3_; clear n0_ n1_ n2_ n3_; (try clear hb); (try clear hb2); (try clear hk); (try clear hi); (try clear ho0); (try clear A2)))
 (try simp only [Act.put, List.setIfInBounds_toArray, List.set_cons_zero, List.set_cons_succ])
 go_cut [14] (fun v14 wc => ∃ (kq : Nat) (x14_2 : Bool) (x1001_2 : Int), v14 = .bool x14_2 ∧ Zz (spec_l61AnyTable.j0 kq t416 x14_2 s0_0 x1001_2 = some (r1, r2)) ∧ Zz (kq ≤ k) ∧ Zz (Kd.R k30 30 wc w.heap.size (fun _ => True) v417 t416) ∧ Zz (IsS81 w0 wc g s0_0 x1001_2) ∧ Zz (KeepBut w wc g none) ∧ Zz (Below w0.heap.size w0 wc))
 case first =>
  have H := HC3.out
  clear HC3
  by_cases c5 : (t416.length : Int) > 0
  ·rw [if_pos c5] at H
   have c5b0 : decide (0 < (t416.length : Int)) = true := decide_eq_true c5
   have c5b1 : decide (0 < t416.length) = true := decide_eq_true (by omega)
   clear c5
   (first | rw [c5b0] | (simp only [i64_w, i32_w]; rw [c5b0]) | skip)
   replace H := Option.bind_eq_some_iff.mp H
   obtain ⟨⟨t420, t421⟩, A60, H⟩ := H
   replace H : (spec_l61AnyTable.j0 k t416 (t420 == 0) s0_0 t421) = some (r1, r2) := H
   have A6 := Zz.mk A60
   clear A60
   have H' := Zz.mk H
   clear H
   obtain ⟨Ao7, co7, eo7⟩ := Kd.R_slice HO418.out
   subst eo7
   go_wp2_with (first | (go_at_call 65; (with_reducible refine (spec_l1Rd_pick.calls k g s0_0 t419 12 t420 t421 w0 _ ?side1 ?side2 A6.out).mono ?_); (case side1 => repeat (first | (with_reducible first | exact HI0.out | apply IsS81.alloc | apply IsS81.drewN | apply IsS81.drew | apply IsS81.set_1) | exact HI0.out)); (case side2 => repeat (first | (with_reducible first | exact HB.out | apply bwA | apply pwN | apply bw1 | refine bwS ?_ (IsS81.ge HI0.out)) | exact HB.out)); rintro e w8 ⟨rfl, hi, hb, hk⟩; have n0_ := Zz.mk (Kd.R_mono (Kd.R_keep (IsS81.apart (show IsS81 w0 _ g s0_0 t419 from by repeat (first | (with_reducible first | exact HI0.out | apply IsS81.alloc | apply IsS81.drewN | apply IsS81.drew | apply IsS81.set_1) | exact HI0.out)) (by (with_reducible repeat (first | apply Kd.R_alloc | apply Kd.R_drewN | apply Kd.R_drew)); exact HO418.out) (by decide)) hk (fun _ h => h.2)) (fun _ h => h.1)); have n1_ := Zz.mk (KeepBut.trans (by repeat (first | (with_reducible first | exact HK.out | apply KeepBut.set_ | apply kpN | apply kpD | apply kpA) | exact HK.out)) hk (.inl rfl)); have n2_ := Zz.mk (hb); have n3_ := Zz.mk (hi); clear HO418; clear HK; clear HB; clear HI0; have HO418 := n0_; have HK := n1_; have HB := n2_; have HI0 := n3_; clear n0_ n1_ n2_ n3_; (try clear hb); (try clear hb2); (try clear hk); (try clear hi); (try clear A6)))
   go_meet
   case rel => exact ⟨_, ((t420 == 0)), (t421), (by first | rfl | (simp; done) | (simp [*]; done)), H', ⟨by first | omega | exact Nat.le_refl _⟩, ⟨by (with_reducible repeat (first | apply Kd.R_alloc | apply Kd.R_drewN | apply Kd.R_drew)); exact HO418.out⟩, ⟨by repeat (first | (with_reducible first | exact HI0.out | apply IsS81.alloc | apply IsS81.drewN | apply IsS81.drew | apply IsS81.set_1) | exact HI0.out)⟩, ⟨by repeat (first | (with_reducible first | exact HK.out | apply KeepBut.set_ | apply kpN | apply kpD | apply kpA) | exact HK.out)⟩, ⟨by repeat (first | (with_reducible first | exact HB.out | apply bwA | apply pwN | apply bw1 | refine bwS ?_ (IsS81.ge HI0.out)) | exact HB.out)⟩⟩
  ·rw [if_neg c5] at H
   have c5b0 : decide (0 < (t416.length : Int)) = false := decide_eq_false c5
   have c5b1 : decide (0 < t416.length) = false := decide_eq_false (by omega)
   clear c5
   (first | rw [c5b0] | (simp only [i64_w, i32_w]; rw [c5b0]) | skip)
   have H' := Zz.mk H
   clear H
   obtain ⟨Ao9, co9, eo9⟩ := Kd.R_slice HO418.out
   subst eo9
   go_wp2
   go_meet
   case rel => exact ⟨_, (false), (t419), (by first | rfl | (simp; done) | (simp [*]; done)), H', ⟨by first | omega | exact Nat.le_refl _⟩, ⟨by (with_reducible repeat (first | apply Kd.R_alloc | apply Kd.R_drewN | apply Kd.R_drew)); exact HO418.out⟩, ⟨by repeat (first | (with_reducible first | exact HI0.out | apply IsS81.alloc | apply IsS81.drewN | apply IsS81.drew | apply IsS81.set_1) | exact HI0.out)⟩, ⟨by repeat (first | (with_reducible first | exact HK.out | apply KeepBut.set_ | apply kpN | apply kpD | apply kpA) | exact HK.out)⟩, ⟨by repeat (first | (with_reducible first | exact HB.out | apply bwA | apply pwN | apply bw1 | refine bwS ?_ (IsS81.ge HI0.out)) | exact HB.out)⟩⟩
 case rest =>
  clear HC3
  try clear p2
  try clear c4
  try clear c5
  try clear c5b0
  try clear c5b1
  try clear c6
  obtain ⟨kq, x14_2, x1001_2, rfl, HA, HJ2, HO_3, HI0, HK, HB⟩ := hcut
  cases kq with
  | zero => exact absurd HA.out (by simp [spec_l61AnyTable.j0])
  | succ kj2 =>
   have H := HA.out
   clear HA
   simp only [spec_l61AnyTable.j0] at H
   by_cases c10 : x14_2 = true
   ·subst c10
    have H1 : ((spec_l1Rd_pick.f kj2 s0_0 x1001_2 (t416.length : Int)).bind fun bt422 => ((spec_l1Rd_pick.f kj2 s0_0 bt422.2 3).bind fun bt424 => (if bt424.1 = 0 then ((spec_l61AnyFact.f kj2 s0_0 bt424.2).bind fun bt426 => (if 0 ≤ bt422.1 then (if bt422.1 < (t416.length : Int) then (some ((t416.set (bt422.1 : Int).toNat (⟨bt426.1, bt426.2.1, bt426.2.2.1, bt426.2.2.2.1⟩ : S30)), bt426.2.2.2.2)) else (none)) else (none))) else (if bt424.1 = 1 then (if 0 ≤ bt422.1 then (if bt422.1 < (t416.length : Int) then (if t416.length < 4398046511104 then (some ((t416 ++ [(⟨(rd_T30 t416 bt422.1).f0, (rd_T30 t416 bt422.1).f1, (rd_T30 t416 bt422.1).f2, (rd_T30 t416 bt422.1).f3⟩ : S30)]), bt424.2)) else (none)) else (none)) else (none)) else (if 0 ≤ bt422.1 then (if bt422.1 < (t416.length : Int) then (some ((t416.set (bt422.1 : Int).toNat (⟨(rd_T30 t416 bt422.1).f0, (rd_T30 t416 bt422.1).f1, 0, (rd_T30 t416 bt422.1).f3⟩ : S30)), bt424.2)) else (none)) else (none)))))) = some (r1, r2) := by rw [if_pos rfl] at H; exact H
    clear H
    have H := H1
    clear H1
    replace H := Option.bind_eq_some_iff.mp H
    obtain ⟨⟨t422, t423⟩, A110, H⟩ := H
    replace H : ((spec_l1Rd_pick.f kj2 s0_0 t423 3).bind fun bt424 => (if bt424.1 = 0 then ((spec_l61AnyFact.f kj2 s0_0 bt424.2).bind fun bt426 => (if 0 ≤ t422 then (if t422 < (t416.length : Int) then (some ((t416.set (t422 : Int).toNat (⟨bt426.1, bt426.2.1, bt426.2.2.1, bt426.2.2.2.1⟩ : S30)), bt426.2.2.2.2)) else (none)) else (none))) else (if bt424.1 = 1 then (if 0 ≤ t422 then (if t422 < (t416.length : Int) then (if t416.length < 4398046511104 then (some ((t416 ++ [(⟨(rd_T30 t416 t422).f0, (rd_T30 t416 t422).f1, (rd_T30 t416 t422).f2, (rd_T30 t416 t422).f3⟩ : S30)]), bt424.2)) else (none)) else (none)) else (none)) else (if 0 ≤ t422 then (if t422 < (t416.length : Int) then (some ((t416.set (t422 : Int).toNat (⟨(rd_T30 t416 t422).f0, (rd_T30 t416 t422).f1, 0, (rd_T30 t416 t422).f3⟩ : S30)), bt424.2)) else (none)) else (none))))) = some (r1, r2) := H
    have A11 := Zz.mk A110
    clear A110
    replace H := Option.bind_eq_some_iff.mp H
    obtain ⟨⟨t424, t425⟩, A120, H⟩ := H
    replace H : (if t424 = 0 then ((spec_l61AnyFact.f kj2 s0_0 t425).bind fun bt426 => (if 0 ≤ t422 then (if t422 < (t416.length : Int) then (some ((t416.set (t422 : Int).toNat (⟨bt426.1, bt426.2.1, bt426.2.2.1, bt426.2.2.2.1⟩ : S30)), bt426.2.2.2.2)) else (none)) else (none))) else (if t424 = 1 then (if 0 ≤ t422 then (if t422 < (t416.length : Int) then (if t416.length < 4398046511104 then (some ((t416 ++ [(⟨(rd_T30 t416 t422).f0, (rd_T30 t416 t422).f1, (rd_T30 t416 t422).f2, (rd_T30 t416 t422).f3⟩ : S30)]), t425)) else (none)) else (none)) else (none)) else (if 0 ≤ t422 then (if t422 < (t416.length : Int) then (some ((t416.set (t422 : Int).toNat (⟨(rd_T30 t416 t422).f0, (rd_T30 t416 t422).f1, 0, (rd_T30 t416 t422).f3⟩ : S30)), t425)) else (none)) else (none)))) = some (r1, r2) := H
    have A12 := Zz.mk A120
    clear A120
    by_cases c13 : t424 = 0
    ·rw [if_pos c13] at H
     have c13b0 : (t424 == 0) = true := beq_iff_eq.mpr c13
     have c13b1 : (t424 != 0) = false := bne_eq_false_iff_eq.mpr c13
     clear c13
     replace H := Option.bind_eq_some_iff.mp H
     obtain ⟨⟨t426, t427, t428, t429, t430⟩, A140, H⟩ := H
     replace H : (if 0 ≤ t422 then (if t422 < (t416.length : Int) then (some ((t416.set (t422 : Int).toNat (⟨t426, t427, t428, t429⟩ : S30)), t430)) else (none)) else (none)) = some (r1, r2) := H
     have A14 := Zz.mk A140
     clear A140
     by_cases c15 : 0 ≤ t422
     ·rw [if_pos c15] at H
      have c15b0 : decide (0 ≤ t422) = true := decide_eq_true c15
      clear c15
      by_cases c16 : t422 < (t416.length : Int)
      ·rw [if_pos c16] at H
       have c16b0 : decide (t422 < (t416.length : Int)) = true := decide_eq_true c16
       clear c16
       obtain ⟨y431, hy431⟩ : ∃ y_ : List (S30), y_ = (t416.set (t422 : Int).toNat (⟨t426, t427, t428, t429⟩ : S30)) := ⟨_, rfl⟩
       replace H : (some (y431, t430)) = some (r1, r2) := by first | (rw [hy431]; with_reducible exact H) | (replace H := (Option.bind_some _ _).symm.trans H; first | (rw [hy431]; with_reducible exact H) | with_reducible exact H) | with_reducible exact H | (rw [hy431]; exact H) | exact H
       have Ny431 := Zz.mk hy431
       clear hy431
       simp only [Option.some.injEq, Prod.mk.injEq] at H
       obtain ⟨rfl, rfl⟩ := H
       obtain ⟨Ao18, co18, eo18⟩ := Kd.R_slice HO_3.out
       subst eo18
       go_wp2_with (first | ((with_reducible refine gate_callee (f := 65) rfl ?_); refine goesL_ (some 18) rfl rfl Try.func65 (by kernel_rfl) rfl #[.pointer (some ⟨g, 0, none⟩), .int .i64 (t416.length : Int)] rfl (by (try simp only [List.map_toArray, List.map_cons, List.map_nil]); first | done | rfl | (simp only [List.length_drop, List.length_take]; rfl)) ?_; (with_reducible refine (spec_l1Rd_pick.calls kj2 g s0_0 x1001_2 (t416.length : Int) t422 t423 w0 _ ?side1 ?side2 A11.out).mono ?_); (case side1 => repeat (first | (with_reducible first | exact HI0.out | apply IsS81.alloc | apply IsS81.drewN | apply IsS81.drew | apply IsS81.set_1) | exact HI0.out)); (case side2 => repeat (first | (with_reducible first | exact HB.out | apply bwA | apply pwN | apply bw1 | refine bwS ?_ (IsS81.ge HI0.out)) | exact HB.out)); rintro e w19 ⟨rfl, hi, hb, hk⟩; refine ⟨_, rfl, ?_⟩; have n0_ := Zz.mk (Kd.R_mono (Kd.R_keep (IsS81.apart (show IsS81 w0 _ g s0_0 x1001_2 from by repeat (first | (with_reducible first | exact HI0.out | apply IsS81.alloc | apply IsS81.drewN | apply IsS81.drew | apply IsS81.set_1) | exact HI0.out)) (by (with_reducible repeat (first | apply Kd.R_alloc | apply Kd.R_drewN | apply Kd.R_drew)); exact HO_3.out) (by decide)) hk (fun _ h => h.2)) (fun _ h => h.1)); have n1_ := Zz.mk (KeepBut.trans (by repeat (first | (with_reducible first | exact HK.out | apply KeepBut.set_ | apply kpN | apply kpD | apply kpA) | exact HK.out)) hk (.inl rfl)); have n2_ := Zz.mk (hb); have n3_ := Zz.mk (hi); clear HO_3; clear HK; clear HB; clear HI0; have HO_3 := n0_; have HK := n1_; have HB := n2_; have HI0 := n3_; clear n0_ n1_ n2_ n3_; (try clear hb); (try clear hb2); (try clear hk); (try clear hi); (try clear A11)) | ((with_reducible refine gate_callee (f := 65) rfl ?_); refine goesL_ (some 20) rfl rfl Try.func65 (by kernel_rfl) rfl #[.pointer (some ⟨g, 0, none⟩), .int .i64 3] rfl (by (try simp only [List.map_toArray, List.map_cons, List.map_nil]); first | done | rfl | (simp only [List.length_drop, List.length_take]; rfl)) ?_; (with_reducible refine (spec_l1Rd_pick.calls kj2 g s0_0 t423 3 t424 t425 w0 _ ?side1 ?side2 A12.out).mono ?_); (case side1 => repeat (first | (with_reducible first | exact HI0.out | apply IsS81.alloc | apply IsS81.drewN | apply IsS81.drew | apply IsS81.set_1) | exact HI0.out)); (case side2 => repeat (first | (with_reducible first | exact HB.out | apply bwA | apply pwN | apply bw1 | refine bwS ?_ (IsS81.ge HI0.out)) | exact HB.out)); rintro e w20 ⟨rfl, hi, hb, hk⟩; refine ⟨_, rfl, ?_⟩; have n0_ := Zz.mk (Kd.R_mono (Kd.R_keep (IsS81.apart (show IsS81 w0 _ g s0_0 t423 from by repeat (first | (with_reducible first | exact HI0.out | apply IsS81.alloc | apply IsS81.drewN | apply IsS81.drew | apply IsS81.set_1) | exact HI0.out)) (by (with_reducible repeat (first | apply Kd.R_alloc | apply Kd.R_drewN | apply Kd.R_drew)); exact HO_3.out) (by decide)) hk (fun _ h => h.2)) (fun _ h => h.1)); have n1_ := Zz.mk (KeepBut.trans (by repeat (first | (with_reducible first | exact HK.out | apply KeepBut.set_ | apply kpN | apply kpD | apply kpA) | exact HK.out)) hk (.inl rfl)); have n2_ := Zz.mk (hb); have n3_ := Zz.mk (hi); clear HO_3; clear HK; clear HB; clear HI0; have HO_3 := n0_; have HK := n1_; have HB := n2_; have HI0 := n3_; clear n0_ n1_ n2_ n3_; (try clear hb); (try clear hb2); (try clear hk); (try clear hi); (try clear A12)) | ((with_reducible refine gate_callee (f := 46) rfl ?_); refine goesL_ (some 30) rfl rfl Try.func46 (by kernel_rfl) rfl #[.pointer (some ⟨g, 0, none⟩)] rfl (by (try simp only [List.map_toArray, List.map_cons, List.map_nil]); first | done | rfl | (simp only [List.length_drop, List.length_take]; rfl)) ?_; (with_reducible refine (spec_l61AnyFact.calls kj2 g s0_0 t425 t426 t427 t428 t429 t430 w0 _ ?side1 ?side2 A14.out).mono ?_); (case side1 => repeat (first | (with_reducible first | exact HI0.out | apply IsS81.alloc | apply IsS81.drewN | apply IsS81.drew | apply IsS81.set_1) | exact HI0.out)); (case side2 => repeat (first | (with_reducible first | exact HB.out | apply bwA | apply pwN | apply bw1 | refine bwS ?_ (IsS81.ge HI0.out)) | exact HB.out)); rintro e w21 ⟨rfl, hi, hb, hk⟩; refine ⟨_, rfl, ?_⟩; have n0_ := Zz.mk (Kd.R_mono (Kd.R_keep (IsS81.apart (show IsS81 w0 _ g s0_0 t425 from by repeat (first | (with_reducible first | exact HI0.out | apply IsS81.alloc | apply IsS81.drewN | apply IsS81.drew | apply IsS81.set_1) | exact HI0.out)) (by (with_reducible repeat (first | apply Kd.R_alloc | apply Kd.R_drewN | apply Kd.R_drew)); exact HO_3.out) (by decide)) hk (fun _ h => h.2)) (fun _ h => h.1)); have n1_ := Zz.mk (KeepBut.trans (by repeat (first | (with_reducible first | exact HK.out | apply KeepBut.set_ | apply kpN | apply kpD | apply kpA) | exact HK.out)) hk (.inl rfl)); have n2_ := Zz.mk (hb); have n3_ := Zz.mk (hi); clear HO_3; clear HK; clear HB; clear HI0; have HO_3 := n0_; have HK := n1_; have HB := n2_; have HI0 := n3_; clear n0_ n1_ n2_ n3_; (try clear hb); (try clear hb2); (try clear hk); (try clear hi); (try clear A14); have p17 : 0 ≤ (t422 : Int) := of_decide_eq_true (by first | (with_reducible assumption) | assumption); have q17 : (t422 : Int) < ((t416.length : Int) : Int) := of_decide_eq_true (by first | (with_reducible assumption) | assumption); obtain ⟨go17, co17, eo17, gb17, gl17, cl17, HG17⟩ := Kd.R_form HO_3.out (by omega); (first | cases eo17 | (injection eo17 with ea_ en_ ec_; (first | subst ea_ | (injection ea_ with ea_; subst ea_)); subst ec_; clear en_)); have GB17 := Zz.mk gb17; have GG17 := Zz.mk HG17; clear gb17 gl17 HG17; obtain ⟨ce17, hcl17, hM17, hcc17, hfr17⟩ := Kd.R_elem HO_3.out z30 (t422 : Int) p17 q17; obtain rfl := k30_openM hM17; have hx17_0 : w21.cell? ⟨go17, (t422 : Int).toNat * 4, none⟩ = some (.int .i64 ((rd_T30 t416 t422).f0)) := hcc17 0 _ rfl; have hx17_1 : w21.cell? ⟨go17, (t422 : Int).toNat * 4 + 1, none⟩ = some (.int .i64 ((rd_T30 t416 t422).f1)) := hcc17 1 _ rfl; have hx17_2 : w21.cell? ⟨go17, (t422 : Int).toNat * 4 + 2, none⟩ = some (.int .i64 ((rd_T30 t416 t422).f2)) := hcc17 2 _ rfl; have hx17_3 : w21.cell? ⟨go17, (t422 : Int).toNat * 4 + 3, none⟩ = some (.bool ((rd_T30 t416 t422).f3)) := hcc17 3 _ rfl; have hf17_0 : w21.frozen? ⟨go17, (t422 : Int).toNat * 4, none⟩ = false := hfr17 0; have hf17_1 : w21.frozen? ⟨go17, (t422 : Int).toNat * 4 + 1, none⟩ = false := hfr17 1; have hf17_2 : w21.frozen? ⟨go17, (t422 : Int).toNat * 4 + 2, none⟩ = false := hfr17 2; have hf17_3 : w21.frozen? ⟨go17, (t422 : Int).toNat * 4 + 3, none⟩ = false := hfr17 3; clear hcl17 hcc17 hfr17 hM17; replace p17 := eq_true p17; replace q17 := eq_true q17; have HX22 := Zz.mk (show Kd.R k30 30 w21 w.heap.size (fun _ => True) (.slice (some ⟨go17, 0, none⟩) t416.length co18) t416 from (by (with_reducible repeat (first | apply Kd.R_alloc | apply Kd.R_drewN | apply Kd.R_drew)); exact HO_3.out)); obtain ⟨ce22, hcl22, hM22, hcc22, hfr22⟩ := Kd.R_elem HX22.out z30 (t422 : Int) (of_decide_eq_true (by first | (with_reducible assumption) | assumption)) (by have h_ : (t422 : Int) < ((t416.length : Int) : Int) := of_decide_eq_true (by first | (with_reducible assumption) | assumption); first | exact h_ | (have e_ := (Kd.R_reads' HO_3.out).1; omega) | simpa using h_); obtain rfl := k30_openM hM22; have HP22 := Kd.R_seg HX22.out (t422 : Int) (of_decide_eq_true (by first | (with_reducible assumption) | assumption)) (by have h_ : (t422 : Int) < ((t416.length : Int) : Int) := of_decide_eq_true (by first | (with_reducible assumption) | assumption); first | exact h_ | (have e_ := (Kd.R_reads' HO_3.out).1; omega) | simpa using h_) (seg := [.int .i64 t426, .int .i64 t427, .int .i64 t428, .bool t429]) (j := 0) hcl22 hcc22 (show 4 ≤ 4 from by decide) (x' := (⟨t426, t427, t428, t429⟩ : S30)) (k30_mkM _ _ _ (⟨t426, t427, t428, t429⟩ : S30) ) (fun _ hk => hk); have hx22_0 := hcc22 0 _ rfl; (try simp only [show (k30).sz = 4 from rfl, Nat.mul_one, Nat.add_zero] at hx22_0); have hf22_0 := hfr22 0; (try simp only [show (k30).sz = 4 from rfl, Nat.mul_one, Nat.add_zero] at hf22_0); have hx22_1 := hcc22 1 _ rfl; (try simp only [show (k30).sz = 4 from rfl, Nat.mul_one, Nat.add_zero] at hx22_1); have hf22_1 := hfr22 1; (try simp only [show (k30).sz = 4 from rfl, Nat.mul_one, Nat.add_zero] at hf22_1); have hx22_2 := hcc22 2 _ rfl; (try simp only [show (k30).sz = 4 from rfl, Nat.mul_one, Nat.add_zero] at hx22_2); have hf22_2 := hfr22 2; (try simp only [show (k30).sz = 4 from rfl, Nat.mul_one, Nat.add_zero] at hf22_2); have hx22_3 := hcc22 3 _ rfl; (try simp only [show (k30).sz = 4 from rfl, Nat.mul_one, Nat.add_zero] at hx22_3); have hf22_3 := hfr22 3; (try simp only [show (k30).sz = 4 from rfl, Nat.mul_one, Nat.add_zero] at hf22_3); clear hcl22 hcc22 hfr22 hM22) | ((with_reducible refine gate_store (t := 30) (p := 31) rfl ?_); refine store_event (t := 30) (p := 31) (v := ?vo_w23) (w1 := ((((w21.setCell ⟨go17, (t422 : Int).toNat * 4, none⟩ (.int .i64 t426)).setCell ⟨go17, (t422 : Int).toNat * 4 + 1, none⟩ (.int .i64 t427)).setCell ⟨go17, (t422 : Int).toNat * 4 + 2, none⟩ (.int .i64 t428)).setCell ⟨go17, (t422 : Int).toNat * 4 + 3, none⟩ (.bool t429))) ?hg ?ho ?hn ?hr ?_; (case ho => rfl); (case hg => rfl); (case hn => rfl); (case hr => first | (go_simp; done) | (go_simp; rfl)); intro w23 hw; have hg : w21.grownBy w23 (some go17) := (by rw [hw]; exact HP22.2); have hp_ : Kd.R k30 30 w23 w.heap.size (fun _ => True) (.slice (some ⟨go17, 0, none⟩) t416.length co18) y431 := (by rw [hw, Ny431.out]; exact HP22.1); clear HP22; have n0_ := Zz.mk (hp_); have n1_ := Zz.mk (IsS81.grown (by repeat (first | (with_reducible first | exact HI0.out | apply IsS81.alloc | apply IsS81.drewN | apply IsS81.drew | apply IsS81.set_1) | exact HI0.out)) hg (IsS81.own_ne HI0.out HO_3.out (by decide))); have n2_ := Zz.mk ((by rw [hw]; exact bwS (bwS (bwS (bwS (HB.out) (Nat.le_trans HL.out GB17.out)) (Nat.le_trans HL.out GB17.out)) (Nat.le_trans HL.out GB17.out)) (Nat.le_trans HL.out GB17.out) : Below w0.heap.size w0 w23)); have n3_ := Zz.mk (KeepBut.trans (by repeat (first | (with_reducible first | exact HK.out | apply KeepBut.set_ | apply kpN | apply kpD | apply kpA) | exact HK.out)) (KeepBut.of_grown hg g) (Kd.R_base2 HO_3.out)); clear HO_3; clear HI0; clear HB; clear HK; have HO_3 := n0_; have HI0 := n1_; have HB := n2_; have HK := n3_; clear n0_ n1_ n2_ n3_; clear hg hw hp_))
       go_ret
       exact ⟨_, by first | rfl | (simp [*, errW_none, errW_some] <;> rfl), by (with_reducible repeat (first | apply Kd.R_alloc | apply Kd.R_drewN | apply Kd.R_drew)); exact HO_3.out, by repeat (first | (with_reducible first | exact HI0.out | apply IsS81.alloc | apply IsS81.drewN | apply IsS81.drew | apply IsS81.set_1) | exact HI0.out), by repeat (first | (with_reducible first | exact HB.out | apply bwA | apply pwN | apply bw1 | refine bwS ?_ (IsS81.ge HI0.out)) | exact HB.out), by repeat (first | (with_reducible first | exact HK.out | apply KeepBut.set_ | apply kpN | apply kpD | apply kpA) | exact HK.out)⟩
      ·rw [if_neg c16] at H
       exact absurd H (by simp)
     ·rw [if_neg c15] at H
      exact absurd H (by simp)
    ·rw [if_neg c13] at H
     have c13b0 : (t424 == 0) = false := beq_eq_false_iff_ne.mpr c13
     have c13b1 : (t424 != 0) = true := bne_iff_ne.mpr c13
     by_cases c24 : t424 = 1
     ·rw [if_pos c24] at H
      have c24b0 : (t424 == 1) = true := beq_iff_eq.mpr c24
      have c24b1 : (t424 != 1) = false := bne_eq_false_iff_eq.mpr c24
      clear c24
      by_cases c25 : 0 ≤ t422
      ·rw [if_pos c25] at H
       have c25b0 : decide (0 ≤ t422) = true := decide_eq_true c25
       clear c25
       by_cases c26 : t422 < (t416.length : Int)
       ·rw [if_pos c26] at H
        have c26b0 : decide (t422 < (t416.length : Int)) = true := decide_eq_true c26
        clear c26
        by_cases c27 : t416.length < 4398046511104
        ·rw [if_pos c27] at H
         have LMc27 := Zz.mk c27
         clear c27
         obtain ⟨y433, hy433⟩ : ∃ y_ : List (S30), y_ = (t416 ++ [(⟨(rd_T30 t416 t422).f0, (rd_T30 t416 t422).f1, (rd_T30 t416 t422).f2, (rd_T30 t416 t422).f3⟩ : S30)]) := ⟨_, rfl⟩
         replace H : (some (y433, t425)) = some (r1, r2) := by first | (rw [hy433]; with_reducible exact H) | (replace H := (Option.bind_some _ _).symm.trans H; first | (rw [hy433]; with_reducible exact H) | with_reducible exact H) | with_reducible exact H | (rw [hy433]; exact H) | exact H
         have Ny433 := Zz.mk hy433
         clear hy433
         simp only [Option.some.injEq, Prod.mk.injEq] at H
         obtain ⟨rfl, rfl⟩ := H
         obtain ⟨Ao28, co28, eo28⟩ := Kd.R_slice HO_3.out
         subst eo28
         go_wp2_with (first | ((with_reducible refine gate_callee (f := 65) rfl ?_); refine goesL_ (some 18) rfl rfl Try.func65 (by kernel_rfl) rfl #[.pointer (some ⟨g, 0, none⟩), .int .i64 (t416.length : Int)] rfl (by (try simp only [List.map_toArray, List.map_cons, List.map_nil]); first | done | rfl | (simp only [List.length_drop, List.length_take]; rfl)) ?_; (with_reducible refine (spec_l1Rd_pick.calls kj2 g s0_0 x1001_2 (t416.length : Int) t422 t423 w0 _ ?side1 ?side2 A11.out).mono ?_); (case side1 => repeat (first | (with_reducible first | exact HI0.out | apply IsS81.alloc | apply IsS81.drewN | apply IsS81.drew | apply IsS81.set_1) | exact HI0.out)); (case side2 => repeat (first | (with_reducible first | exact HB.out | apply bwA | apply pwN | apply bw1 | refine bwS ?_ (IsS81.ge HI0.out)) | exact HB.out)); rintro e w29 ⟨rfl, hi, hb, hk⟩; refine ⟨_, rfl, ?_⟩; have n0_ := Zz.mk (Kd.R_mono (Kd.R_keep (IsS81.apart (show IsS81 w0 _ g s0_0 x1001_2 from by repeat (first | (with_reducible first | exact HI0.out | apply IsS81.alloc | apply IsS81.drewN | apply IsS81.drew | apply IsS81.set_1) | exact HI0.out)) (by (with_reducible repeat (first | apply Kd.R_alloc | apply Kd.R_drewN | apply Kd.R_drew)); exact HO_3.out) (by decide)) hk (fun _ h => h.2)) (fun _ h => h.1)); have n1_ := Zz.mk (KeepBut.trans (by repeat (first | (with_reducible first | exact HK.out | apply KeepBut.set_ | apply kpN | apply kpD | apply kpA) | exact HK.out)) hk (.inl rfl)); have n2_ := Zz.mk (hb); have n3_ := Zz.mk (hi); clear HO_3; clear HK; clear HB; clear HI0; have HO_3 := n0_; have HK := n1_; have HB := n2_; have HI0 := n3_; clear n0_ n1_ n2_ n3_; (try clear hb); (try clear hb2); (try clear hk); (try clear hi); (try clear A11)) | ((with_reducible refine gate_callee (f := 65) rfl ?_); refine goesL_ (some 20) rfl rfl Try.func65 (by kernel_rfl) rfl #[.pointer (some ⟨g, 0, none⟩), .int .i64 3] rfl (by (try simp only [List.map_toArray, List.map_cons, List.map_nil]); first | done | rfl | (simp only [List.length_drop, List.length_take]; rfl)) ?_; (with_reducible refine (spec_l1Rd_pick.calls kj2 g s0_0 t423 3 t424 t425 w0 _ ?side1 ?side2 A12.out).mono ?_); (case side1 => repeat (first | (with_reducible first | exact HI0.out | apply IsS81.alloc | apply IsS81.drewN | apply IsS81.drew | apply IsS81.set_1) | exact HI0.out)); (case side2 => repeat (first | (with_reducible first | exact HB.out | apply bwA | apply pwN | apply bw1 | refine bwS ?_ (IsS81.ge HI0.out)) | exact HB.out)); rintro e w30 ⟨rfl, hi, hb, hk⟩; refine ⟨_, rfl, ?_⟩; have n0_ := Zz.mk (Kd.R_mono (Kd.R_keep (IsS81.apart (show IsS81 w0 _ g s0_0 t423 from by repeat (first | (with_reducible first | exact HI0.out | apply IsS81.alloc | apply IsS81.drewN | apply IsS81.drew | apply IsS81.set_1) | exact HI0.out)) (by (with_reducible repeat (first | apply Kd.R_alloc | apply Kd.R_drewN | apply Kd.R_drew)); exact HO_3.out) (by decide)) hk (fun _ h => h.2)) (fun _ h => h.1)); have n1_ := Zz.mk (KeepBut.trans (by repeat (first | (with_reducible first | exact HK.out | apply KeepBut.set_ | apply kpN | apply kpD | apply kpA) | exact HK.out)) hk (.inl rfl)); have n2_ := Zz.mk (hb); have n3_ := Zz.mk (hi); clear HO_3; clear HK; clear HB; clear HI0; have HO_3 := n0_; have HK := n1_; have HB := n2_; have HI0 := n3_; clear n0_ n1_ n2_ n3_; (try clear hb); (try clear hb2); (try clear hk); (try clear hi); (try clear A12); have p432 : 0 ≤ (t422 : Int) := of_decide_eq_true (by first | (with_reducible assumption) | assumption); have q432 : t422 < (t416.length : Int) := of_decide_eq_true (by first | (with_reducible assumption) | assumption); obtain ⟨ad432, e432, hx432_0, hx432_1, hx432_2, hx432_3⟩ := at_T30 (Kd.R_reads' HO_3.out).2.2 t422 p432 q432; cases e432; replace p432 := eq_true p432; replace q432 := eq_true q432) | ((with_reducible refine gate_builtin (b := .append) (xs := #[.tmp 34, .tmp 39]) rfl ?_); at_builtin; refine Kd.R_append k30 w.heap.size rfl (.tmp 34) (.tmp 39) 26 30 (.agg #[(.int .i64 0), (.int .i64 0), (.int .i64 0), (.bool false)]) 32 rfl Try.underlying26 info30 rfl (by decide) (by omega) (.slice (some ad432) t416.length co28) t416 (⟨(rd_T30 t416 t422).f0, (rd_T30 t416 t422).f1, (rd_T30 t416 t422).f2, (rd_T30 t416 t422).f3⟩ : S30) [.int .i64 ((rd_T30 t416 t422).f0), .int .i64 ((rd_T30 t416 t422).f1), .int .i64 ((rd_T30 t416 t422).f2), .bool ((rd_T30 t416 t422).f3)] (fun _ => True) (fun _ => False) rfl rfl ?aP (fun _ hk => hk.elim) ?aF ?aO (Below.refl _ _) ?aS ?aL ?_; (case aP => exact k30_mkM _ _ _ (⟨(rd_T30 t416 t422).f0, (rd_T30 t416 t422).f1, (rd_T30 t416 t422).f2, (rd_T30 t416 t422).f3⟩ : S30)); (case aF => exact (fun _ _ => trivial)); (case aO => exact (by (with_reducible repeat (first | apply Kd.R_alloc | apply Kd.R_drewN | apply Kd.R_drew)); exact HO_3.out)); (case aS => exact (keep_size (w := w) (g := g) (row := none) (by repeat (first | (with_reducible first | exact HK.out | apply KeepBut.set_ | apply kpN | apply kpD | apply kpA) | exact HK.out)))); (case aL => have := LMc27.out; omega); intro v434 w31 ho hb hg hat; rw [← Ny433.out] at ho; have n0_ := Zz.mk (IsS81.grown (by repeat (first | (with_reducible first | exact HI0.out | apply IsS81.alloc | apply IsS81.drewN | apply IsS81.drew | apply IsS81.set_1) | exact HI0.out)) hg (IsS81.own_ne HI0.out HO_3.out (by decide))); have n1_ := Zz.mk (below_weaken (by repeat (first | (with_reducible first | exact HB.out | apply bwA | apply pwN | apply bw1 | refine bwS ?_ (IsS81.ge HI0.out)) | exact HB.out)) HL.out hb); have n2_ := Zz.mk (KeepBut.trans (by repeat (first | (with_reducible first | exact HK.out | apply KeepBut.set_ | apply kpN | apply kpD | apply kpA) | exact HK.out)) (KeepBut.of_grown hg g) (Kd.R_base2 HO_3.out)); have n3_ := Zz.mk (ho); clear HI0; clear HB; clear HK; clear HO_3; have HI0 := n0_; have HB := n1_; have HK := n2_; have HO435 := n3_; clear n0_ n1_ n2_ n3_; clear ho hb hg hat))
         go_ret
         exact ⟨_, by first | rfl | (simp [*, errW_none, errW_some] <;> rfl), by (with_reducible repeat (first | apply Kd.R_alloc | apply Kd.R_drewN | apply Kd.R_drew)); exact HO435.out, by repeat (first | (with_reducible first | exact HI0.out | apply IsS81.alloc | apply IsS81.drewN | apply IsS81.drew | apply IsS81.set_1) | exact HI0.out), by repeat (first | (with_reducible first | exact HB.out | apply bwA | apply pwN | apply bw1 | refine bwS ?_ (IsS81.ge HI0.out)) | exact HB.out), by repeat (first | (with_reducible first | exact HK.out | apply KeepBut.set_ | apply kpN | apply kpD | apply kpA) | exact HK.out)⟩
        ·rw [if_neg c27] at H
         exact absurd H (by simp)
       ·rw [if_neg c26] at H
        exact absurd H (by simp)
      ·rw [if_neg c25] at H
       exact absurd H (by simp)
     ·rw [if_neg c24] at H
      have c24b0 : (t424 == 1) = false := beq_eq_false_iff_ne.mpr c24
      have c24b1 : (t424 != 1) = true := bne_iff_ne.mpr c24
      by_cases c32 : 0 ≤ t422
      ·rw [if_pos c32] at H
       have c32b0 : decide (0 ≤ t422) = true := decide_eq_true c32
       clear c32
       by_cases c33 : t422 < (t416.length : Int)
       ·rw [if_pos c33] at H
        have c33b0 : decide (t422 < (t416.length : Int)) = true := decide_eq_true c33
        clear c33
        obtain ⟨y436, hy436⟩ : ∃ y_ : List (S30), y_ = (t416.set (t422 : Int).toNat (⟨(rd_T30 t416 t422).f0, (rd_T30 t416 t422).f1, 0, (rd_T30 t416 t422).f3⟩ : S30)) := ⟨_, rfl⟩
        replace H : (some (y436, t425)) = some (r1, r2) := by first | (rw [hy436]; with_reducible exact H) | (replace H := (Option.bind_some _ _).symm.trans H; first | (rw [hy436]; with_reducible exact H) | with_reducible exact H) | with_reducible exact H | (rw [hy436]; exact H) | exact H
        have Ny436 := Zz.mk hy436
        clear hy436
        simp only [Option.some.injEq, Prod.mk.injEq] at H
        obtain ⟨rfl, rfl⟩ := H
        obtain ⟨Ao35, co35, eo35⟩ := Kd.R_slice HO_3.out
        subst eo35
        go_wp2_with (first | ((with_reducible refine gate_callee (f := 65) rfl ?_); refine goesL_ (some 18) rfl rfl Try.func65 (by kernel_rfl) rfl #[.pointer (some ⟨g, 0, none⟩), .int .i64 (t416.length : Int)] rfl (by (try simp only [List.map_toArray, List.map_cons, List.map_nil]); first | done | rfl | (simp only [List.length_drop, List.length_take]; rfl)) ?_; (with_reducible refine (spec_l1Rd_pick.calls kj2 g s0_0 x1001_2 (t416.length : Int) t422 t423 w0 _ ?side1 ?side2 A11.out).mono ?_); (case side1 => repeat (first | (with_reducible first | exact HI0.out | apply IsS81.alloc | apply IsS81.drewN | apply IsS81.drew | apply IsS81.set_1) | exact HI0.out)); (case side2 => repeat (first | (with_reducible first | exact HB.out | apply bwA | apply pwN | apply bw1 | refine bwS ?_ (IsS81.ge HI0.out)) | exact HB.out)); rintro e w36 ⟨rfl, hi, hb, hk⟩; refine ⟨_, rfl, ?_⟩; have n0_ := Zz.mk (Kd.R_mono (Kd.R_keep (IsS81.apart (show IsS81 w0 _ g s0_0 x1001_2 from by repeat (first | (with_reducible first | exact HI0.out | apply IsS81.alloc | apply IsS81.drewN | apply IsS81.drew | apply IsS81.set_1) | exact HI0.out)) (by (with_reducible repeat (first | apply Kd.R_alloc | apply Kd.R_drewN | apply Kd.R_drew)); exact HO_3.out) (by decide)) hk (fun _ h => h.2)) (fun _ h => h.1)); have n1_ := Zz.mk (KeepBut.trans (by repeat (first | (with_reducible first | exact HK.out | apply KeepBut.set_ | apply kpN | apply kpD | apply kpA) | exact HK.out)) hk (.inl rfl)); have n2_ := Zz.mk (hb); have n3_ := Zz.mk (hi); clear HO_3; clear HK; clear HB; clear HI0; have HO_3 := n0_; have HK := n1_; have HB := n2_; have HI0 := n3_; clear n0_ n1_ n2_ n3_; (try clear hb); (try clear hb2); (try clear hk); (try clear hi); (try clear A11)) | ((with_reducible refine gate_callee (f := 65) rfl ?_); refine goesL_ (some 20) rfl rfl Try.func65 (by kernel_rfl) rfl #[.pointer (some ⟨g, 0, none⟩), .int .i64 3] rfl (by (try simp only [List.map_toArray, List.map_cons, List.map_nil]); first | done | rfl | (simp only [List.length_drop, List.length_take]; rfl)) ?_; (with_reducible refine (spec_l1Rd_pick.calls kj2 g s0_0 t423 3 t424 t425 w0 _ ?side1 ?side2 A12.out).mono ?_); (case side1 => repeat (first | (with_reducible first | exact HI0.out | apply IsS81.alloc | apply IsS81.drewN | apply IsS81.drew | apply IsS81.set_1) | exact HI0.out)); (case side2 => repeat (first | (with_reducible first | exact HB.out | apply bwA | apply pwN | apply bw1 | refine bwS ?_ (IsS81.ge HI0.out)) | exact HB.out)); rintro e w37 ⟨rfl, hi, hb, hk⟩; refine ⟨_, rfl, ?_⟩; have n0_ := Zz.mk (Kd.R_mono (Kd.R_keep (IsS81.apart (show IsS81 w0 _ g s0_0 t423 from by repeat (first | (with_reducible first | exact HI0.out | apply IsS81.alloc | apply IsS81.drewN | apply IsS81.drew | apply IsS81.set_1) | exact HI0.out)) (by (with_reducible repeat (first | apply Kd.R_alloc | apply Kd.R_drewN | apply Kd.R_drew)); exact HO_3.out) (by decide)) hk (fun _ h => h.2)) (fun _ h => h.1)); have n1_ := Zz.mk (KeepBut.trans (by repeat (first | (with_reducible first | exact HK.out | apply KeepBut.set_ | apply kpN | apply kpD | apply kpA) | exact HK.out)) hk (.inl rfl)); have n2_ := Zz.mk (hb); have n3_ := Zz.mk (hi); clear HO_3; clear HK; clear HB; clear HI0; have HO_3 := n0_; have HK := n1_; have HB := n2_; have HI0 := n3_; clear n0_ n1_ n2_ n3_; (try clear hb); (try clear hb2); (try clear hk); (try clear hi); (try clear A12); have p34 : 0 ≤ (t422 : Int) := of_decide_eq_true (by first | (with_reducible assumption) | assumption); have q34 : (t422 : Int) < ((t416.length : Int) : Int) := of_decide_eq_true (by first | (with_reducible assumption) | assumption); obtain ⟨go34, co34, eo34, gb34, gl34, cl34, HG34⟩ := Kd.R_form HO_3.out (by omega); (first | cases eo34 | (injection eo34 with ea_ en_ ec_; (first | subst ea_ | (injection ea_ with ea_; subst ea_)); subst ec_; clear en_)); have GB34 := Zz.mk gb34; have GG34 := Zz.mk HG34; clear gb34 gl34 HG34; obtain ⟨ce34, hcl34, hM34, hcc34, hfr34⟩ := Kd.R_elem HO_3.out z30 (t422 : Int) p34 q34; obtain rfl := k30_openM hM34; have hx34_0 : w37.cell? ⟨go34, (t422 : Int).toNat * 4, none⟩ = some (.int .i64 ((rd_T30 t416 t422).f0)) := hcc34 0 _ rfl; have hx34_1 : w37.cell? ⟨go34, (t422 : Int).toNat * 4 + 1, none⟩ = some (.int .i64 ((rd_T30 t416 t422).f1)) := hcc34 1 _ rfl; have hx34_2 : w37.cell? ⟨go34, (t422 : Int).toNat * 4 + 2, none⟩ = some (.int .i64 ((rd_T30 t416 t422).f2)) := hcc34 2 _ rfl; have hx34_3 : w37.cell? ⟨go34, (t422 : Int).toNat * 4 + 3, none⟩ = some (.bool ((rd_T30 t416 t422).f3)) := hcc34 3 _ rfl; have hf34_0 : w37.frozen? ⟨go34, (t422 : Int).toNat * 4, none⟩ = false := hfr34 0; have hf34_1 : w37.frozen? ⟨go34, (t422 : Int).toNat * 4 + 1, none⟩ = false := hfr34 1; have hf34_2 : w37.frozen? ⟨go34, (t422 : Int).toNat * 4 + 2, none⟩ = false := hfr34 2; have hf34_3 : w37.frozen? ⟨go34, (t422 : Int).toNat * 4 + 3, none⟩ = false := hfr34 3; clear hcl34 hcc34 hfr34 hM34; replace p34 := eq_true p34; replace q34 := eq_true q34; have HX38 := Zz.mk (show Kd.R k30 30 w37 w.heap.size (fun _ => True) (.slice (some ⟨go34, 0, none⟩) t416.length co35) t416 from (by (with_reducible repeat (first | apply Kd.R_alloc | apply Kd.R_drewN | apply Kd.R_drew)); exact HO_3.out)); obtain ⟨ce38, hcl38, hM38, hcc38, hfr38⟩ := Kd.R_elem HX38.out z30 (t422 : Int) (of_decide_eq_true (by first | (with_reducible assumption) | assumption)) (by have h_ : (t422 : Int) < ((t416.length : Int) : Int) := of_decide_eq_true (by first | (with_reducible assumption) | assumption); first | exact h_ | (have e_ := (Kd.R_reads' HO_3.out).1; omega) | simpa using h_); obtain rfl := k30_openM hM38; have HP38 := Kd.R_seg HX38.out (t422 : Int) (of_decide_eq_true (by first | (with_reducible assumption) | assumption)) (by have h_ : (t422 : Int) < ((t416.length : Int) : Int) := of_decide_eq_true (by first | (with_reducible assumption) | assumption); first | exact h_ | (have e_ := (Kd.R_reads' HO_3.out).1; omega) | simpa using h_) (seg := [.int .i64 0]) (j := 2) hcl38 hcc38 (show 3 ≤ 4 from by decide) (x' := (⟨(rd_T30 t416 t422).f0, (rd_T30 t416 t422).f1, 0, (rd_T30 t416 t422).f3⟩ : S30)) (k30_mkM _ _ _ (⟨(rd_T30 t416 t422).f0, (rd_T30 t416 t422).f1, 0, (rd_T30 t416 t422).f3⟩ : S30) ) (fun _ hk => hk); have hx38_2 := hcc38 2 _ rfl; (try simp only [show (k30).sz = 4 from rfl, Nat.mul_one, Nat.add_zero] at hx38_2); have hf38_2 := hfr38 2; (try simp only [show (k30).sz = 4 from rfl, Nat.mul_one, Nat.add_zero] at hf38_2); clear hcl38 hcc38 hfr38 hM38) | ((with_reducible refine gate_store (t := 3) (p := 24) rfl ?_); refine store_event (t := 3) (p := 24) (v := ?vo_w39) (w1 := (w37.setCell ⟨go34, (t422 : Int).toNat * 4 + 2, none⟩ (.int .i64 0))) ?hg ?ho ?hn ?hr ?_; (case ho => rfl); (case hg => rfl); (case hn => rfl); (case hr => first | (go_simp; done) | (go_simp; rfl)); intro w39 hw; have hg : w37.grownBy w39 (some go34) := (by rw [hw]; exact HP38.2); have hp_ : Kd.R k30 30 w39 w.heap.size (fun _ => True) (.slice (some ⟨go34, 0, none⟩) t416.length co35) y436 := (by rw [hw, Ny436.out]; exact HP38.1); clear HP38; have n0_ := Zz.mk (hp_); have n1_ := Zz.mk (IsS81.grown (by repeat (first | (with_reducible first | exact HI0.out | apply IsS81.alloc | apply IsS81.drewN | apply IsS81.drew | apply IsS81.set_1) | exact HI0.out)) hg (IsS81.own_ne HI0.out HO_3.out (by decide))); have n2_ := Zz.mk ((by rw [hw]; exact bwS (HB.out) (Nat.le_trans HL.out GB34.out) : Below w0.heap.size w0 w39)); have n3_ := Zz.mk (KeepBut.trans (by repeat (first | (with_reducible first | exact HK.out | apply KeepBut.set_ | apply kpN | apply kpD | apply kpA) | exact HK.out)) (KeepBut.of_grown hg g) (Kd.R_base2 HO_3.out)); clear HO_3; clear HI0; clear HB; clear HK; have HO_3 := n0_; have HI0 := n1_; have HB := n2_; have HK := n3_; clear n0_ n1_ n2_ n3_; clear hg hw hp_))
        go_ret
        exact ⟨_, by first | rfl | (simp [*, errW_none, errW_some] <;> rfl), by (with_reducible repeat (first | apply Kd.R_alloc | apply Kd.R_drewN | apply Kd.R_drew)); exact HO_3.out, by repeat (first | (with_reducible first | exact HI0.out | apply IsS81.alloc | apply IsS81.drewN | apply IsS81.drew | apply IsS81.set_1) | exact HI0.out), by repeat (first | (with_reducible first | exact HB.out | apply bwA | apply pwN | apply bw1 | refine bwS ?_ (IsS81.ge HI0.out)) | exact HB.out), by repeat (first | (with_reducible first | exact HK.out | apply KeepBut.set_ | apply kpN | apply kpD | apply kpA) | exact HK.out)⟩
       ·rw [if_neg c33] at H
        exact absurd H (by simp)
      ·rw [if_neg c32] at H
       exact absurd H (by simp)
   ·replace c10 := Bool.eq_false_iff.mpr c10
    subst c10
    have H1 : (some (t416, x1001_2)) = some (r1, r2) := by rw [if_neg (show ¬ (false = true) by decide)] at H; exact H
    clear H
    have H := H1
    clear H1
    simp only [Option.some.injEq, Prod.mk.injEq] at H
    obtain ⟨rfl, rfl⟩ := H
    go_wp2
    go_ret
    exact ⟨_, by first | rfl | (simp [*, errW_none, errW_some] <;> rfl), by (with_reducible repeat (first | apply Kd.R_alloc | apply Kd.R_drewN | apply Kd.R_drew)); exact HO_3.out, by repeat (first | (with_reducible first | exact HI0.out | apply IsS81.alloc | apply IsS81.drewN | apply IsS81.drew | apply IsS81.set_1) | exact HI0.out), by repeat (first | (with_reducible first | exact HB.out | apply bwA | apply pwN | apply bw1 | refine bwS ?_ (IsS81.ge HI0.out)) | exact HB.out), by repeat (first | (with_reducible first | exact HK.out | apply KeepBut.set_ | apply kpN | apply kpD | apply kpA) | exact HK.out)⟩

/-! ### spec_DrawTablePut: function 20 -/
def spec_DrawTablePut.f (k : Nat) (l0 : List Int) : Option ((List (S30)) × Int × Int × Int × Bool) := (spec_l1Open.f l0).bind fun bt438 => ((spec_l61AnyTable.f k bt438.1 bt438.2).bind fun bt441 => ((spec_l61AnyFact.f k bt438.1 bt441.2).bind fun bt445 => (some (bt441.1, bt445.1, bt445.2.1, bt445.2.2.1, bt445.2.2.2.1))))
theorem spec_DrawTablePut.mono : ∀ a0 k, LeO (spec_DrawTablePut.f k a0) (spec_DrawTablePut.f (k + 1) a0) := by
 intro a0 k
 unfold spec_DrawTablePut.f
 repeat' first
   | (with_reducible exact spec_l61AnyFact.mono _ _ _)
   | (with_reducible exact spec_l61AnyTable.mono _ _ _)
   | (with_reducible exact LeO.refl _)
   | (with_reducible exact LeO.none _)
   | (with_reducible refine LeO.ite ?_ ?_)
   | (with_reducible refine LeO.bind ?_ (fun _ => ?_))
   | exact spec_l61AnyFact.mono _ _ _
   | exact spec_l61AnyTable.mono _ _ _
   | exact LeO.none _
   | refine LeO.ite ?_ ?_
   | refine LeO.bind ?_ (fun _ => ?_)
set_option maxHeartbeats 8000000 in
set_option maxRecDepth 100000 in
theorem spec_DrawTablePut.calls (k : Nat) (A0 : Option Addr) (c0 : Nat) (l0 : List Int) (r1 : List (S30)) (r2 : Int) (r3 : Int) (r4 : Int) (r5 : Bool) (w : World) (hr0 : Kd.C (Kd.int .u8) w A0 l0.length l0) (hc0 : l0.length ≤ c0) (h : spec_DrawTablePut.f k l0 = some (r1, r2, r3, r4, r5)) :
  Calls Try.prog 20 #[.slice A0 l0.length c0] w fun e w' => ∃ v0_ : Value, e = .returned (.tuple #[v0_, .agg #[.int .i64 r2, .int .i64 r3, .int .i64 r4, .bool r5]]) ∧ Kd.R k30 30 w' w.heap.size (fun _ => True) v0_ r1 ∧ Below w.heap.size w w' := by
 have hu30 := Try.underlying30
 have HR0 := Zz.mk hr0
 have HC0 := Zz.mk hc0
 clear hr0 hc0
 have HB := Zz.mk (Below.refl w.heap.size w)
 have H : ((spec_l1Open.f l0).bind fun bt438 => ((spec_l61AnyTable.f k bt438.1 bt438.2).bind fun bt441 => ((spec_l61AnyFact.f k bt438.1 bt441.2).bind fun bt445 => (some (bt441.1, bt445.1, bt445.2.1, bt445.2.2.1, bt445.2.2.2.1))))) = some (r1, r2, r3, r4, r5) := h
 clear h
 replace H := Option.bind_eq_some_iff.mp H
 obtain ⟨⟨t438, t439⟩, A20, H⟩ := H
 replace H : ((spec_l61AnyTable.f k t438 t439).bind fun bt441 => ((spec_l61AnyFact.f k t438 bt441.2).bind fun bt445 => (some (bt441.1, bt445.1, bt445.2.1, bt445.2.2.1, bt445.2.2.2.1)))) = some (r1, r2, r3, r4, r5) := H
 have A2 := Zz.mk A20
 clear A20
 replace H := Option.bind_eq_some_iff.mp H
 obtain ⟨⟨t441, t444⟩, A30, H⟩ := H
 replace H : ((spec_l61AnyFact.f k t438 t444).bind fun bt445 => (some (t441, bt445.1, bt445.2.1, bt445.2.2.1, bt445.2.2.2.1))) = some (r1, r2, r3, r4, r5) := H
 have A3 := Zz.mk A30
 clear A30
 replace H := Option.bind_eq_some_iff.mp H
 obtain ⟨⟨t445, t446, t447, t448, t449⟩, A40, H⟩ := H
 replace H : (some (t441, t445, t446, t447, t448)) = some (r1, r2, r3, r4, r5) := H
 have A4 := Zz.mk A40
 clear A40
 simp only [Option.some.injEq, Prod.mk.injEq] at H
 obtain ⟨rfl, rfl, rfl, rfl, rfl⟩ := H
 go_enter Try.func20, Try.ntmps20
 go_wp2_with (first | ((with_reducible refine gate_dst (N := 3) rfl ?_); refine box_event ?hg (N := 3) ?hd (cs := #[.int .i64 0, .int .i64 0, .int .i64 0, .bool false]) (t := 30) ?hr ?_; (case hd => rfl); (case hg => rfl); (case hr => first | (go_simp; done) | (go_simp; rfl)); intro gb437 hg w5 hbox hb; have n0_ := Zz.mk (bwP (by repeat (first | (with_reducible first | exact HB.out | apply bwA | apply pwN | apply bw1) | exact HB.out)) hb); have n1_ := Zz.mk (hbox); have n2_ := Zz.mk ((by rw [hg]; exact (bwZ (by repeat (first | (with_reducible first | exact HB.out | apply bwA | apply pwN | apply bw1) | exact HB.out))) : w.heap.size ≤ gb437)); have n3_ := Zz.mk ((by rw [hg]; exact (bwZ (by repeat (first | (with_reducible first | exact HB.out | apply bwA | apply pwN | apply bw1) | exact HB.out))) : w.heap.size ≤ gb437)); clear HB; have HB := n0_; have BK437 := n1_; have GW437 := n2_; have GE437 := n3_; clear n0_ n1_ n2_ n3_; clear hb hbox hg) | ((with_reducible refine gate_callee (f := 44) rfl ?_); refine goesL_ (some 6) rfl rfl Try.func44 (by kernel_rfl) rfl #[.slice A0 l0.length c0] rfl (by (try simp only [List.map_toArray, List.map_cons, List.map_nil]); first | done | rfl | (simp only [List.length_drop, List.length_take]; rfl)) ?_; (with_reducible refine (spec_l1Open.calls _ _ l0 t438 t439 w _ ?side1 ?side2 ?side3 A2.out).mono ?_); (case side1 => repeat (first | (with_reducible first | exact HB.out | apply bwA | apply pwN | apply bw1 | refine bwS ?_ GE437.out) | exact HB.out)); (case side2 => exact HR0.out); (case side3 => exact HC0.out); rintro e w6 ⟨g440, rfl, hi, hb, hb2⟩; refine ⟨_, rfl, ?_⟩; have n0_ := Zz.mk (bkB (g := gb437) (o := .cells #[.int .i64 0, .int .i64 0, .int .i64 0, .bool false] 30 (0, 0)) (by (with_reducible repeat (first | refine bkN ?_ _ | refine bkD ?_ | refine bkA ?_ _)); exact BK437.out) hb2); have n1_ := Zz.mk (hb); have n2_ := Zz.mk (hi); have n3_ := Zz.mk (IsS81.ne_blk hi (bkB (g := gb437) (o := .cells #[.int .i64 0, .int .i64 0, .int .i64 0, .bool false] 30 (0, 0)) (by (with_reducible repeat (first | refine bkN ?_ _ | refine bkD ?_ | refine bkA ?_ _)); exact BK437.out) hb2) (by decide)); have n4_ := Zz.mk (Ne.symm (IsS81.ne_blk hi (bkB (g := gb437) (o := .cells #[.int .i64 0, .int .i64 0, .int .i64 0, .bool false] 30 (0, 0)) (by (with_reducible repeat (first | refine bkN ?_ _ | refine bkD ?_ | refine bkA ?_ _)); exact BK437.out) hb2) (by decide))); clear BK437; clear HB; have BK437 := n0_; have HB := n1_; have HI440 := n2_; have NB440_437 := n3_; have NB437_440 := n4_; clear n0_ n1_ n2_ n3_ n4_; (try clear hb); (try clear hb2); (try clear hk); (try clear hi); (try clear A2)) | ((with_reducible refine gate_callee (f := 45) rfl ?_); refine goesL_ (some 8) rfl rfl Try.func45 (by kernel_rfl) rfl #[.pointer (some ⟨g440, 0, none⟩)] rfl (by (try simp only [List.map_toArray, List.map_cons, List.map_nil]); first | done | rfl | (simp only [List.length_drop, List.length_take]; rfl)) ?_; (with_reducible refine (spec_l61AnyTable.calls k g440 t438 t439 t441 t444 w _ ?side1 ?side2 A3.out).mono ?_); (case side1 => repeat (first | (with_reducible first | exact HI440.out | apply IsS81.alloc | apply IsS81.drewN | apply IsS81.drew | apply IsS81.set_1 | refine IsS81.far ?_ NB440_437.out _) | exact HI440.out)); (case side2 => repeat (first | (with_reducible first | exact HB.out | apply bwA | apply pwN | apply bw1 | refine bwS ?_ (IsS81.ge HI440.out) | refine bwS ?_ GE437.out) | exact HB.out)); rintro e w7 ⟨v442, rfl, ho0, hi, hb, hk⟩; refine ⟨_, rfl, ?_⟩; have n0_ := Zz.mk (KeepBut.blk hk (g' := gb437) (o := .cells #[.int .i64 0, .int .i64 0, .int .i64 0, .bool false] 30 (0, 0)) (by (with_reducible repeat (first | refine bkN ?_ _ | refine bkD ?_ | refine bkA ?_ _)); exact BK437.out) NB437_440.out (by simp)); have n1_ := Zz.mk (Kd.R_lower (Kd.R_newB ho0 (g := gb437) (o := .cells #[.int .i64 0, .int .i64 0, .int .i64 0, .bool false] 30 (0, 0)) (by (with_reducible repeat (first | refine bkN ?_ _ | refine bkD ?_ | refine bkA ?_ _)); exact BK437.out)) (bwZ (by repeat (first | (with_reducible first | exact HB.out | apply bwA | apply pwN | apply bw1 | refine bwS ?_ (IsS81.ge HI440.out) | refine bwS ?_ GE437.out) | exact HB.out)))); have n2_ := Zz.mk (hb); have n3_ := Zz.mk (hi); clear BK437; clear HB; clear HI440; have BK437 := n0_; have HO443 := n1_; have HB := n2_; have HI440 := n3_; clear n0_ n1_ n2_ n3_; (try clear hb); (try clear hb2); (try clear hk); (try clear hi); (try clear ho0); (try clear A3)) | ((with_reducible refine gate_callee (f := 46) rfl ?_); refine goesL_ (some 10) rfl rfl Try.func46 (by kernel_rfl) rfl #[.pointer (some ⟨g440, 0, none⟩)] rfl (by (try simp only [List.map_toArray, List.map_cons, List.map_nil]); first | done | rfl | (simp only [List.length_drop, List.length_take]; rfl)) ?_; (with_reducible refine (spec_l61AnyFact.calls k g440 t438 t444 t445 t446 t447 t448 t449 w _ ?side1 ?side2 A4.out).mono ?_); (case side1 => repeat (first | (with_reducible first | exact HI440.out | apply IsS81.alloc | apply IsS81.drewN | apply IsS81.drew | apply IsS81.set_1 | refine IsS81.far ?_ NB440_437.out _) | exact HI440.out)); (case side2 => repeat (first | (with_reducible first | exact HB.out | apply bwA | apply pwN | apply bw1 | refine bwS ?_ (IsS81.ge HI440.out) | refine bwS ?_ GE437.out) | exact HB.out)); rintro e w8 ⟨rfl, hi, hb, hk⟩; refine ⟨_, rfl, ?_⟩; have n0_ := Zz.mk (KeepBut.blk hk (g' := gb437) (o := .cells #[.int .i64 0, .int .i64 0, .int .i64 0, .bool false] 30 (0, 0)) (by (with_reducible repeat (first | refine bkN ?_ _ | refine bkD ?_ | refine bkA ?_ _)); exact BK437.out) NB437_440.out (by simp)); have n1_ := Zz.mk (Kd.R_mono (Kd.R_keep (IsS81.apart (show IsS81 w _ g440 t438 t444 from by repeat (first | (with_reducible first | exact HI440.out | apply IsS81.alloc | apply IsS81.drewN | apply IsS81.drew | apply IsS81.set_1 | refine IsS81.far ?_ NB440_437.out _) | exact HI440.out)) (by (with_reducible repeat (first | apply Kd.R_alloc | apply Kd.R_drewN | apply Kd.R_drew)); exact HO443.out) (by decide)) hk (fun _ h => h.2)) (fun _ h => h.1)); have n2_ := Zz.mk (hb); have n3_ := Zz.mk (hi); clear BK437; clear HO443; clear HB; clear HI440; have BK437 := n0_; have HO443 := n1_; have HB := n2_; have HI440 := n3_; clear n0_ n1_ n2_ n3_; (try clear hb); (try clear hb2); (try clear hk); (try clear hi); (try clear A4); have hnb9 := NB437_440.out; have hnc9 := NB440_437.out; have hcz10_0 : w8.cell? ⟨gb437, 0, none⟩ = some (.int .i64 0) := (bkC BK437.out 0).trans rfl; have hcz10_1 : w8.cell? ⟨gb437, 1, none⟩ = some (.int .i64 0) := (bkC BK437.out 1).trans rfl; have hcz10_2 : w8.cell? ⟨gb437, 2, none⟩ = some (.int .i64 0) := (bkC BK437.out 2).trans rfl; have hcz10_3 : w8.cell? ⟨gb437, 3, none⟩ = some (.bool false) := (bkC BK437.out 3).trans rfl; have hfz10_0 := bkF BK437.out 0; have hfz10_1 := bkF BK437.out 1; have hfz10_2 := bkF BK437.out 2; have hfz10_3 := bkF BK437.out 3))
 refine bodyPost_ret (results_tc rfl _ _ gb437 30 #[.int .i64 t445, .int .i64 t446, .int .i64 t447, .bool t448] (0, 0) _ rfl (by (with_reducible repeat (first | refine bkN ?_ _ | refine bkD ?_ | refine bkA ?_ _)); refine blk_put (cs := #[.int .i64 t445, .int .i64 t446, .int .i64 t447, .bool false]) ?_ 3 _ rfl; (with_reducible repeat (first | refine bkN ?_ _ | refine bkD ?_ | refine bkA ?_ _)); refine blk_put (cs := #[.int .i64 t445, .int .i64 t446, .int .i64 0, .bool false]) ?_ 2 _ rfl; (with_reducible repeat (first | refine bkN ?_ _ | refine bkD ?_ | refine bkA ?_ _)); refine blk_put (cs := #[.int .i64 t445, .int .i64 0, .int .i64 0, .bool false]) ?_ 1 _ rfl; (with_reducible repeat (first | refine bkN ?_ _ | refine bkD ?_ | refine bkA ?_ _)); refine blk_put (cs := #[.int .i64 0, .int .i64 0, .int .i64 0, .bool false]) ?_ 0 _ rfl; (with_reducible repeat (first | refine bkN ?_ _ | refine bkD ?_ | refine bkA ?_ _)); exact BK437.out) Try.underlying30 rfl (by kernel_rfl)) rfl ?_
 exact ⟨_, by first | rfl | (simp [*, errW_none, errW_some] <;> rfl), by (with_reducible repeat (first | apply Kd.R_alloc | apply Kd.R_drewN | apply Kd.R_drew)); exact Kd.R_mono (Kd.R_far (p := ⟨gb437, 3, none⟩) (Kd.R_far (p := ⟨gb437, 2, none⟩) (Kd.R_far (p := ⟨gb437, 1, none⟩) (Kd.R_far (p := ⟨gb437, 0, none⟩) (Kd.R_mono HO443.out (fun k_ hk => (⟨hk, hk.2⟩ : _ ∧ k_ ≠ gb437))) (fun _ hk => hk.2) (.int .i64 t445)) (fun _ hk => hk.2) (.int .i64 t446)) (fun _ hk => hk.2) (.int .i64 t447)) (fun _ hk => hk.2) (.bool t448)) (fun _ hk => trivial), by repeat (first | (with_reducible first | exact HB.out | apply bwA | apply pwN | apply bw1 | refine bwS ?_ (IsS81.ge HI440.out) | refine bwS ?_ GE437.out) | exact HB.out)⟩

/-! ### impl_TableVersion: function 21 -/
def impl_TableVersion.l0 : Nat → Int → List (S30) → Int → Int → Option (Int)
 | 0, _, _, _, _ => none
 | k + 1, x3, x9, x10, x11 => if x11 < x10 then (if 0 ≤ x11 then (if x11 < (x9.length : Int) then (if (rd_T30 x9 x11).f3 = true then (impl_TableVersion.l0 k (wrap64 ((wrap64 (x3 + (wrap64 ((wrap64 (1 + (wrap64 (((rd_T30 x9 x11).f1) * 16)))) + (wrap64 (((rd_T30 x9 x11).f2) * 2)))))) + 1)) x9 x10 (wrap64 (x11 + 1))) else (impl_TableVersion.l0 k (wrap64 (x3 + (wrap64 ((wrap64 (1 + (wrap64 (((rd_T30 x9 x11).f1) * 16)))) + (wrap64 (((rd_T30 x9 x11).f2) * 2)))))) x9 x10 (wrap64 (x11 + 1)))) else (none)) else (none)) else (some x3)
def impl_TableVersion.f (k : Nat) (l0 : List (S30)) : Option (Int) := (impl_TableOk.f k l0).bind fun t450 => (if t450 = true then (impl_TableVersion.l0 k 0 l0 (l0.length : Int) 0) else (some 0))
theorem impl_TableVersion.mono_l : ∀ k, (∀ y0 y1 y2 y3, LeO (impl_TableVersion.l0 k y0 y1 y2 y3) (impl_TableVersion.l0 (k + 1) y0 y1 y2 y3))
 | 0 => fun _ _ _ _ r h => by simp [impl_TableVersion.l0] at h
 | k + 1 => by
  have ih0 := impl_TableVersion.mono_l k
  ·intro y0 y1 y2 y3
   unfold impl_TableVersion.l0
   repeat' first
   | (with_reducible exact ih0 _ _ _ _)
   | (with_reducible exact impl_TableOk.mono _ _)
   | (with_reducible exact LeO.refl _)
   | (with_reducible exact LeO.none _)
   | (with_reducible refine LeO.ite ?_ ?_)
   | (with_reducible refine LeO.bind ?_ (fun _ => ?_))
   | exact ih0 _ _ _ _
   | exact impl_TableOk.mono _ _
   | exact LeO.none _
   | refine LeO.ite ?_ ?_
   | refine LeO.bind ?_ (fun _ => ?_)
theorem impl_TableVersion.mono : ∀ a0 k, LeO (impl_TableVersion.f k a0) (impl_TableVersion.f (k + 1) a0) := by
 intro a0 k
 have ih0 := impl_TableVersion.mono_l k
 unfold impl_TableVersion.f
 repeat' first
   | (with_reducible exact ih0 _ _ _ _)
   | (with_reducible exact impl_TableOk.mono _ _)
   | (with_reducible exact LeO.refl _)
   | (with_reducible exact LeO.none _)
   | (with_reducible refine LeO.ite ?_ ?_)
   | (with_reducible refine LeO.bind ?_ (fun _ => ?_))
   | exact ih0 _ _ _ _
   | exact impl_TableOk.mono _ _
   | exact LeO.none _
   | refine LeO.ite ?_ ?_
   | refine LeO.bind ?_ (fun _ => ?_)
set_option maxHeartbeats 8000000 in
set_option maxRecDepth 100000 in
theorem impl_TableVersion.calls (k : Nat) (A0 : Option Addr) (c0 : Nat) (l0 : List (S30)) (r : Int) (w : World) (hr0 : Kd.C k30 w A0 l0.length l0) (hc0 : l0.length ≤ c0) (h : impl_TableVersion.f k l0 = some r) :
  Calls Try.prog 21 #[.slice A0 l0.length c0] w fun e w' => e = .returned (.int .i64 r) ∧ Below w.heap.size w w' := by
 have hu30 := Try.underlying30
 have HR0 := Zz.mk hr0
 have HC0 := Zz.mk hc0
 clear hr0 hc0
 have HB := Zz.mk (Below.refl w.heap.size w)
 have H : ((impl_TableOk.f k l0).bind fun t450 => (if t450 = true then (impl_TableVersion.l0 k 0 l0 (l0.length : Int) 0) else (some 0))) = some r := h
 clear h
 replace H := Option.bind_eq_some_iff.mp H
 obtain ⟨t450, A20, H⟩ := H
 replace H : (if t450 = true then (impl_TableVersion.l0 k 0 l0 (l0.length : Int) 0) else (some 0)) = some r := H
 have A2 := Zz.mk A20
 clear A20
 by_cases c3 : t450 = true
 ·subst c3
  have H1 : (impl_TableVersion.l0 k 0 l0 (l0.length : Int) 0) = some r := by rw [if_pos rfl] at H; exact H
  clear H
  have H := H1
  clear H1
  have H' := Zz.mk H
  clear H
  go_enter Try.func21, Try.ntmps21
  go_wp2_with (first | ((with_reducible refine gate_callee (f := 39) rfl ?_); refine goesL_ (some 7) rfl rfl Try.func39 (by kernel_rfl) rfl #[.slice A0 l0.length c0] rfl (by (try simp only [List.map_toArray, List.map_cons, List.map_nil]); first | done | rfl | (simp only [List.length_drop, List.length_take]; rfl)) ?_; (with_reducible refine (impl_TableOk.calls k _ _ l0 true _ ?side1 ?side2 A2.out).mono ?_); (case side1 => repeat (first | exact HR0.out | (with_reducible refine Kd.C_alloc ?_ _) | (with_reducible refine Kd.C_drewN ?_ _) | (with_reducible refine Kd.C_drew ?_))); (case side2 => exact HC0.out); rintro e w4 ⟨rfl, hb⟩; refine ⟨_, rfl, ?_⟩; have n0_ := Zz.mk (bwP (by repeat (first | (with_reducible first | exact HB.out | apply bwA | apply pwN | apply bw1) | exact HB.out)) hb); clear HB; have HB := n0_; clear n0_; (try clear hb); (try clear hb2); (try clear hk); (try clear hi); (try clear A2)))
  go_loopg [3, 11] k (fun kq v3 v11 w' => ∃ (x3_1 : Int) (x11_1 : Int), v3 = .int .i64 x3_1 ∧ v11 = .int .i64 x11_1 ∧ Zz (impl_TableVersion.l0 kq x3_1 l0 (l0.length : Int) x11_1 = some r) ∧ Zz (kq ≤ k) ∧ Zz (Below w.heap.size w w'))
  case atStart => exact ⟨(0), (0), (by first | rfl | (simp; done) | (simp [*]; done)), (by first | rfl | (simp; done) | (simp [*]; done)), H', ⟨Nat.le_refl _⟩, ⟨by repeat (first | (with_reducible first | exact HB.out | apply bwA | apply pwN | apply bw1) | exact HB.out)⟩⟩
  case round =>
   clear H'
   try clear c2
   try clear p2
   try clear c3
   obtain ⟨x3_1, x11_1, rfl, rfl, HA, HK1, HB⟩ := hrel
   cases gk with
   | zero => exact absurd HA.out (by simp [impl_TableVersion.l0])
   | succ k1 =>
    have H := HA.out
    clear HA
    simp only [impl_TableVersion.l0] at H
    by_cases c5 : x11_1 < (l0.length : Int)
    ·rw [if_pos c5] at H
     have c5b0 : decide (x11_1 < (l0.length : Int)) = true := decide_eq_true c5
     clear c5
     by_cases c6 : 0 ≤ x11_1
     ·rw [if_pos c6] at H
      have c6b0 : decide (0 ≤ x11_1) = true := decide_eq_true c6
      clear c6
      by_cases c7 : x11_1 < (l0.length : Int)
      ·rw [if_pos c7] at H
       have c7b0 : decide (x11_1 < (l0.length : Int)) = true := decide_eq_true c7
       clear c7
       obtain ⟨bq8, hbq8⟩ : ∃ b_ : Bool, b_ = ((rd_T30 l0 x11_1).f3) := ⟨_, rfl⟩
       replace H : (if bq8 = true then (impl_TableVersion.l0 k1 (wrap64 ((wrap64 (x3_1 + (wrap64 ((wrap64 (1 + (wrap64 (((rd_T30 l0 x11_1).f1) * 16)))) + (wrap64 (((rd_T30 l0 x11_1).f2) * 2)))))) + 1)) l0 (l0.length : Int) (wrap64 (x11_1 + 1))) else (impl_TableVersion.l0 k1 (wrap64 (x3_1 + (wrap64 ((wrap64 (1 + (wrap64 (((rd_T30 l0 x11_1).f1) * 16)))) + (wrap64 (((rd_T30 l0 x11_1).f2) * 2)))))) l0 (l0.length : Int) (wrap64 (x11_1 + 1)))) = some r := by rw [← hbq8] at H; exact H
       have Nbq8 := Zz.mk hbq8
       clear hbq8
       by_cases c9 : bq8 = true
       ·subst c9
        have H1 : (impl_TableVersion.l0 k1 (wrap64 ((wrap64 (x3_1 + (wrap64 ((wrap64 (1 + (wrap64 (((rd_T30 l0 x11_1).f1) * 16)))) + (wrap64 (((rd_T30 l0 x11_1).f2) * 2)))))) + 1)) l0 (l0.length : Int) (wrap64 (x11_1 + 1))) = some r := by rw [if_pos rfl] at H; exact H
        clear H
        have H := H1
        clear H1
        have H' := Zz.mk H
        clear H
        have p451 : 0 ≤ (x11_1 : Int) := of_decide_eq_true (by first | (with_reducible assumption) | assumption)
        have q451 : x11_1 < (l0.length : Int) := of_decide_eq_true (by first | (with_reducible assumption) | assumption)
        obtain ⟨ad451, e451, hx451_0, hx451_1, hx451_2, hx451_3⟩ := at_T30 HR0.out x11_1 p451 q451
        (try rw [← Nbq8.out] at hx451_3)
        cases e451
        replace hx451_0 := (HB.out.cell (World.block_lt_of_cell? w _ hx451_0)).trans hx451_0
        replace hx451_1 := (HB.out.cell (World.block_lt_of_cell? w _ hx451_1)).trans hx451_1
        replace hx451_2 := (HB.out.cell (World.block_lt_of_cell? w _ hx451_2)).trans hx451_2
        replace hx451_3 := (HB.out.cell (World.block_lt_of_cell? w _ hx451_3)).trans hx451_3
        replace p451 := eq_true p451
        replace q451 := eq_true q451
        go_wp2_with (first | ((with_reducible refine gate_dst (N := 5) rfl ?_); refine box_event ?hg (N := 5) ?hd (cs := #[.int .i64 0, .int .i64 0, .int .i64 0, .bool false]) (t := 30) ?hr ?_; (case hd => rfl); (case hg => rfl); (case hr => first | (go_simp; done) | (go_simp; rfl)); intro gb452 hg w10 hbox hb; have n0_ := Zz.mk (bwP (by repeat (first | (with_reducible first | exact HB.out | apply bwA | apply pwN | apply bw1) | exact HB.out)) hb); have n1_ := Zz.mk (hbox); have n2_ := Zz.mk ((by rw [hg]; exact (bwZ (by repeat (first | (with_reducible first | exact HB.out | apply bwA | apply pwN | apply bw1) | exact HB.out))) : w.heap.size ≤ gb452)); have n3_ := Zz.mk ((by rw [hg]; exact (bwZ (by repeat (first | (with_reducible first | exact HB.out | apply bwA | apply pwN | apply bw1) | exact HB.out))) : w.heap.size ≤ gb452)); clear HB; have HB := n0_; have BK452 := n1_; have GW452 := n2_; have GE452 := n3_; clear n0_ n1_ n2_ n3_; clear hb hbox hg; have hcz11_0 : w10.cell? ⟨gb452, 0, none⟩ = some (.int .i64 0) := (bkC BK452.out 0).trans rfl; have hcz11_1 : w10.cell? ⟨gb452, 1, none⟩ = some (.int .i64 0) := (bkC BK452.out 1).trans rfl; have hcz11_2 : w10.cell? ⟨gb452, 2, none⟩ = some (.int .i64 0) := (bkC BK452.out 2).trans rfl; have hcz11_3 : w10.cell? ⟨gb452, 3, none⟩ = some (.bool false) := (bkC BK452.out 3).trans rfl; have hfz11_0 := bkF BK452.out 0; have hfz11_1 := bkF BK452.out 1; have hfz11_2 := bkF BK452.out 2; have hfz11_3 := bkF BK452.out 3))
        go_roundg k1
        case measure => have := HK1.out; omega
        case rel => exact ⟨(wrap64 ((wrap64 (x3_1 + (wrap64 ((wrap64 (1 + (wrap64 (((rd_T30 l0 x11_1).f1) * 16)))) + (wrap64 (((rd_T30 l0 x11_1).f2) * 2)))))) + 1)), (wrap64 (x11_1 + 1)), (by first | rfl | (simp; done) | (simp [*]; done)), (by first | rfl | (simp; done) | (simp [*]; done)), H', ⟨by have := HK1.out; omega⟩, ⟨by repeat (first | (with_reducible first | exact HB.out | apply bwA | apply pwN | apply bw1 | refine bwS ?_ GE452.out) | exact HB.out)⟩⟩
       ·replace c9 := Bool.eq_false_iff.mpr c9
        subst c9
        have H1 : (impl_TableVersion.l0 k1 (wrap64 (x3_1 + (wrap64 ((wrap64 (1 + (wrap64 (((rd_T30 l0 x11_1).f1) * 16)))) + (wrap64 (((rd_T30 l0 x11_1).f2) * 2)))))) l0 (l0.length : Int) (wrap64 (x11_1 + 1))) = some r := by rw [if_neg (show ¬ (false = true) by decide)] at H; exact H
        clear H
        have H := H1
        clear H1
        have H' := Zz.mk H
        clear H
        have p451 : 0 ≤ (x11_1 : Int) := of_decide_eq_true (by first | (with_reducible assumption) | assumption)
        have q451 : x11_1 < (l0.length : Int) := of_decide_eq_true (by first | (with_reducible assumption) | assumption)
        obtain ⟨ad451, e451, hx451_0, hx451_1, hx451_2, hx451_3⟩ := at_T30 HR0.out x11_1 p451 q451
        (try rw [← Nbq8.out] at hx451_3)
        cases e451
        replace hx451_0 := (HB.out.cell (World.block_lt_of_cell? w _ hx451_0)).trans hx451_0
        replace hx451_1 := (HB.out.cell (World.block_lt_of_cell? w _ hx451_1)).trans hx451_1
        replace hx451_2 := (HB.out.cell (World.block_lt_of_cell? w _ hx451_2)).trans hx451_2
        replace hx451_3 := (HB.out.cell (World.block_lt_of_cell? w _ hx451_3)).trans hx451_3
        replace p451 := eq_true p451
        replace q451 := eq_true q451
        go_wp2_with (first | ((with_reducible refine gate_dst (N := 5) rfl ?_); refine box_event ?hg (N := 5) ?hd (cs := #[.int .i64 0, .int .i64 0, .int .i64 0, .bool false]) (t := 30) ?hr ?_; (case hd => rfl); (case hg => rfl); (case hr => first | (go_simp; done) | (go_simp; rfl)); intro gb452 hg w12 hbox hb; have n0_ := Zz.mk (bwP (by repeat (first | (with_reducible first | exact HB.out | apply bwA | apply pwN | apply bw1) | exact HB.out)) hb); have n1_ := Zz.mk (hbox); have n2_ := Zz.mk ((by rw [hg]; exact (bwZ (by repeat (first | (with_reducible first | exact HB.out | apply bwA | apply pwN | apply bw1) | exact HB.out))) : w.heap.size ≤ gb452)); have n3_ := Zz.mk ((by rw [hg]; exact (bwZ (by repeat (first | (with_reducible first | exact HB.out | apply bwA | apply pwN | apply bw1) | exact HB.out))) : w.heap.size ≤ gb452)); clear HB; have HB := n0_; have BK452 := n1_; have GW452 := n2_; have GE452 := n3_; clear n0_ n1_ n2_ n3_; clear hb hbox hg; have hcz13_0 : w12.cell? ⟨gb452, 0, none⟩ = some (.int .i64 0) := (bkC BK452.out 0).trans rfl; have hcz13_1 : w12.cell? ⟨gb452, 1, none⟩ = some (.int .i64 0) := (bkC BK452.out 1).trans rfl; have hcz13_2 : w12.cell? ⟨gb452, 2, none⟩ = some (.int .i64 0) := (bkC BK452.out 2).trans rfl; have hcz13_3 : w12.cell? ⟨gb452, 3, none⟩ = some (.bool false) := (bkC BK452.out 3).trans rfl; have hfz13_0 := bkF BK452.out 0; have hfz13_1 := bkF BK452.out 1; have hfz13_2 := bkF BK452.out 2; have hfz13_3 := bkF BK452.out 3))
        go_roundg k1
        case measure => have := HK1.out; omega
        case rel => exact ⟨(wrap64 (x3_1 + (wrap64 ((wrap64 (1 + (wrap64 (((rd_T30 l0 x11_1).f1) * 16)))) + (wrap64 (((rd_T30 l0 x11_1).f2) * 2)))))), (wrap64 (x11_1 + 1)), (by first | rfl | (simp; done) | (simp [*]; done)), (by first | rfl | (simp; done) | (simp [*]; done)), H', ⟨by have := HK1.out; omega⟩, ⟨by repeat (first | (with_reducible first | exact HB.out | apply bwA | apply pwN | apply bw1 | refine bwS ?_ GE452.out) | exact HB.out)⟩⟩
      ·rw [if_neg c7] at H
       exact absurd H (by simp)
     ·rw [if_neg c6] at H
      exact absurd H (by simp)
    ·rw [if_neg c5] at H
     have c5b0 : decide (x11_1 < (l0.length : Int)) = false := decide_eq_false c5
     clear c5
     obtain rfl := Option.some.inj H
     go_wp2
     go_ret
     exact ⟨by first | rfl | (simp [*, errW_none, errW_some] <;> rfl), by repeat (first | (with_reducible first | exact HB.out | apply bwA | apply pwN | apply bw1) | exact HB.out)⟩
 ·replace c3 := Bool.eq_false_iff.mpr c3
  subst c3
  have H1 : (some 0) = some r := by rw [if_neg (show ¬ (false = true) by decide)] at H; exact H
  clear H
  have H := H1
  clear H1
  obtain rfl := Option.some.inj H
  go_enter Try.func21, Try.ntmps21
  go_wp2_with (first | ((with_reducible refine gate_callee (f := 39) rfl ?_); refine goesL_ (some 7) rfl rfl Try.func39 (by kernel_rfl) rfl #[.slice A0 l0.length c0] rfl (by (try simp only [List.map_toArray, List.map_cons, List.map_nil]); first | done | rfl | (simp only [List.length_drop, List.length_take]; rfl)) ?_; (with_reducible refine (impl_TableOk.calls k _ _ l0 false _ ?side1 ?side2 A2.out).mono ?_); (case side1 => repeat (first | exact HR0.out | (with_reducible refine Kd.C_alloc ?_ _) | (with_reducible refine Kd.C_drewN ?_ _) | (with_reducible refine Kd.C_drew ?_))); (case side2 => exact HC0.out); rintro e w14 ⟨rfl, hb⟩; refine ⟨_, rfl, ?_⟩; have n0_ := Zz.mk (bwP (by repeat (first | (with_reducible first | exact HB.out | apply bwA | apply pwN | apply bw1) | exact HB.out)) hb); clear HB; have HB := n0_; clear n0_; (try clear hb); (try clear hb2); (try clear hk); (try clear hi); (try clear A2)))
  go_ret
  exact ⟨by first | rfl | (simp [*, errW_none, errW_some] <;> rfl), by repeat (first | (with_reducible first | exact HB.out | apply bwA | apply pwN | apply bw1) | exact HB.out)⟩

/-! ### laws_lhFacts: function 22 -/
def laws_lhFacts.l0 : Nat → List (S30) → List (S30) → Int → Option (Bool)
 | 0, _, _, _ => none
 | k + 1, x0, x1, x5 => if x5 < (x0.length : Int) then (if 0 ≤ x5 then (if x5 < (x1.length : Int) then (if (!(((rd_T30 x0 x5).f0) == ((rd_T30 x1 x5).f0)) || (!(((rd_T30 x0 x5).f1) == ((rd_T30 x1 x5).f1)) || (!(((rd_T30 x0 x5).f2) == ((rd_T30 x1 x5).f2)) || (!(((rd_T30 x0 x5).f3) == ((rd_T30 x1 x5).f3)))))) = true then (some false) else (laws_lhFacts.l0 k x0 x1 (wrap64 (x5 + 1)))) else (none)) else (none)) else (some true)
def laws_lhFacts.f (k : Nat) (l0 : List (S30)) (l1 : List (S30)) : Option (Bool) := if (l0.length : Int) = (l1.length : Int) then (laws_lhFacts.l0 k l0 l1 0) else (some false)
theorem laws_lhFacts.mono_l : ∀ k, (∀ y0 y1 y2, LeO (laws_lhFacts.l0 k y0 y1 y2) (laws_lhFacts.l0 (k + 1) y0 y1 y2))
 | 0 => fun _ _ _ r h => by simp [laws_lhFacts.l0] at h
 | k + 1 => by
  have ih0 := laws_lhFacts.mono_l k
  ·intro y0 y1 y2
   unfold laws_lhFacts.l0
   repeat' first
   | (with_reducible exact ih0 _ _ _)
   | (with_reducible exact LeO.refl _)
   | (with_reducible exact LeO.none _)
   | (with_reducible refine LeO.ite ?_ ?_)
   | (with_reducible refine LeO.bind ?_ (fun _ => ?_))
   | exact ih0 _ _ _
   | exact LeO.none _
   | refine LeO.ite ?_ ?_
   | refine LeO.bind ?_ (fun _ => ?_)
theorem laws_lhFacts.mono : ∀ a0 a1 k, LeO (laws_lhFacts.f k a0 a1) (laws_lhFacts.f (k + 1) a0 a1) := by
 intro a0 a1 k
 have ih0 := laws_lhFacts.mono_l k
 unfold laws_lhFacts.f
 repeat' first
   | (with_reducible exact ih0 _ _ _)
   | (with_reducible exact LeO.refl _)
   | (with_reducible exact LeO.none _)
   | (with_reducible refine LeO.ite ?_ ?_)
   | (with_reducible refine LeO.bind ?_ (fun _ => ?_))
   | exact ih0 _ _ _
   | exact LeO.none _
   | refine LeO.ite ?_ ?_
   | refine LeO.bind ?_ (fun _ => ?_)
set_option maxHeartbeats 8000000 in
set_option maxRecDepth 100000 in
theorem laws_lhFacts.calls (k : Nat) (A0 : Option Addr) (c0 : Nat) (l0 : List (S30)) (A1 : Option Addr) (c1 : Nat) (l1 : List (S30)) (r : Bool) (w : World) (hr0 : Kd.C k30 w A0 l0.length l0) (hc0 : l0.length ≤ c0) (hr1 : Kd.C k30 w A1 l1.length l1) (hc1 : l1.length ≤ c1) (h : laws_lhFacts.f k l0 l1 = some r) :
  Calls Try.prog 22 #[.slice A0 l0.length c0, .slice A1 l1.length c1] w fun e w' => e = .returned (.bool r) ∧ Drawn0 w w' := by
 have hu30 := Try.underlying30
 have HR0 := Zz.mk hr0
 have HC0 := Zz.mk hc0
 clear hr0 hc0
 have HR1 := Zz.mk hr1
 have HC1 := Zz.mk hc1
 clear hr1 hc1
 have H : (if (l0.length : Int) = (l1.length : Int) then (laws_lhFacts.l0 k l0 l1 0) else (some false)) = some r := h
 clear h
 by_cases c3 : (l0.length : Int) = (l1.length : Int)
 ·rw [if_pos c3] at H
  have c3b0 : ((l0.length : Int) == (l1.length : Int)) = true := beq_iff_eq.mpr c3
  have c3b1 : ((l0.length : Int) != (l1.length : Int)) = false := bne_eq_false_iff_eq.mpr c3
  have c3b2 : (l0.length == l1.length) = true := by first | simpa using c3 | (simp at c3 ⊢; omega)
  clear c3
  have H' := Zz.mk H
  clear H
  go_enter Try.func22, Try.ntmps22
  go_wp2
  repeat (go_quiet (fail); try go_wp2)
  go_loopg [5] k (fun kq v5 w' => ∃ (x5_1 : Int), v5 = .int .i64 x5_1 ∧ Zz (laws_lhFacts.l0 kq l0 l1 x5_1 = some r) ∧ Zz (kq ≤ k) ∧ Drawn0 w w')
  case atStart => exact ⟨(0), (by first | rfl | (simp; done) | (simp [*]; done)), H', ⟨Nat.le_refl _⟩, by repeat (first | exact Drawn0.refl _ | apply Drawn0.step)⟩
  case round =>
   clear H'
   try clear c1
   try clear c2
   try clear p2
   try clear c3
   try clear c3b0
   try clear c3b1
   try clear c3b2
   obtain ⟨x5_1, rfl, HA, HK1, ⟨m1, rfl⟩⟩ := hrel
   cases gk with
   | zero => exact absurd HA.out (by simp [laws_lhFacts.l0])
   | succ k1 =>
    have H := HA.out
    clear HA
    simp only [laws_lhFacts.l0] at H
    by_cases c4 : x5_1 < (l0.length : Int)
    ·rw [if_pos c4] at H
     have c4b0 : decide (x5_1 < (l0.length : Int)) = true := decide_eq_true c4
     clear c4
     by_cases c5 : 0 ≤ x5_1
     ·rw [if_pos c5] at H
      have c5b0 : decide (0 ≤ x5_1) = true := decide_eq_true c5
      clear c5
      by_cases c6 : x5_1 < (l1.length : Int)
      ·rw [if_pos c6] at H
       have c6b0 : decide (x5_1 < (l1.length : Int)) = true := decide_eq_true c6
       clear c6
       by_cases c7 : (!(((rd_T30 l0 x5_1).f0) == ((rd_T30 l1 x5_1).f0)) || (!(((rd_T30 l0 x5_1).f1) == ((rd_T30 l1 x5_1).f1)) || (!(((rd_T30 l0 x5_1).f2) == ((rd_T30 l1 x5_1).f2)) || (!(((rd_T30 l0 x5_1).f3) == ((rd_T30 l1 x5_1).f3)))))) = true
       ·rw [if_pos c7] at H
        have c7b0 : (!(((rd_T30 l0 x5_1).f0) == ((rd_T30 l1 x5_1).f0)) || (!(((rd_T30 l0 x5_1).f1) == ((rd_T30 l1 x5_1).f1)) || (!(((rd_T30 l0 x5_1).f2) == ((rd_T30 l1 x5_1).f2)) || (!(((rd_T30 l0 x5_1).f3) == ((rd_T30 l1 x5_1).f3)))))) = true := c7
        clear c7
        obtain rfl := Option.some.inj H
        have p453 : 0 ≤ (x5_1 : Int) := of_decide_eq_true (by first | (with_reducible assumption) | assumption)
        have q453 : x5_1 < (l0.length : Int) := of_decide_eq_true (by first | (with_reducible assumption) | assumption)
        obtain ⟨ad453, e453, hx453_0, hx453_1, hx453_2, hx453_3⟩ := at_T30 HR0.out x5_1 p453 q453
        cases e453
        replace p453 := eq_true p453
        replace q453 := eq_true q453
        have p454 : 0 ≤ (x5_1 : Int) := of_decide_eq_true (by first | (with_reducible assumption) | assumption)
        have q454 : x5_1 < (l1.length : Int) := of_decide_eq_true (by first | (with_reducible assumption) | assumption)
        obtain ⟨ad454, e454, hx454_0, hx454_1, hx454_2, hx454_3⟩ := at_T30 HR1.out x5_1 p454 q454
        cases e454
        replace p454 := eq_true p454
        replace q454 := eq_true q454
        go_wp2
        repeat (go_quiet (fail); try go_wp2)
        go_ret
        exact ⟨by first | rfl | (simp; done) | (simp [*]; done), by repeat (first | exact Drawn0.refl _ | apply Drawn0.step)⟩
       ·rw [if_neg c7] at H
        have c7b0 : (!(((rd_T30 l0 x5_1).f0) == ((rd_T30 l1 x5_1).f0)) || (!(((rd_T30 l0 x5_1).f1) == ((rd_T30 l1 x5_1).f1)) || (!(((rd_T30 l0 x5_1).f2) == ((rd_T30 l1 x5_1).f2)) || (!(((rd_T30 l0 x5_1).f3) == ((rd_T30 l1 x5_1).f3)))))) = false := by simpa using c7
        clear c7
        have H' := Zz.mk H
        clear H
        have p453 : 0 ≤ (x5_1 : Int) := of_decide_eq_true (by first | (with_reducible assumption) | assumption)
        have q453 : x5_1 < (l0.length : Int) := of_decide_eq_true (by first | (with_reducible assumption) | assumption)
        obtain ⟨ad453, e453, hx453_0, hx453_1, hx453_2, hx453_3⟩ := at_T30 HR0.out x5_1 p453 q453
        cases e453
        replace p453 := eq_true p453
        replace q453 := eq_true q453
        have p454 : 0 ≤ (x5_1 : Int) := of_decide_eq_true (by first | (with_reducible assumption) | assumption)
        have q454 : x5_1 < (l1.length : Int) := of_decide_eq_true (by first | (with_reducible assumption) | assumption)
        obtain ⟨ad454, e454, hx454_0, hx454_1, hx454_2, hx454_3⟩ := at_T30 HR1.out x5_1 p454 q454
        cases e454
        replace p454 := eq_true p454
        replace q454 := eq_true q454
        go_wp2
        repeat (go_quiet (fail); try go_wp2)
        go_roundg k1
        case measure => have := HK1.out; omega
        case rel => exact ⟨(wrap64 (x5_1 + 1)), (by first | rfl | (simp; done) | (simp [*]; done)), H', ⟨by have := HK1.out; omega⟩, by repeat (first | exact Drawn0.refl _ | apply Drawn0.step)⟩
      ·rw [if_neg c6] at H
       exact absurd H (by simp)
     ·rw [if_neg c5] at H
      exact absurd H (by simp)
    ·rw [if_neg c4] at H
     have c4b0 : decide (x5_1 < (l0.length : Int)) = false := decide_eq_false c4
     clear c4
     obtain rfl := Option.some.inj H
     go_wp2
     repeat (go_quiet (fail); try go_wp2)
     go_ret
     exact ⟨by first | rfl | (simp; done) | (simp [*]; done), by repeat (first | exact Drawn0.refl _ | apply Drawn0.step)⟩
 ·rw [if_neg c3] at H
  have c3b0 : ((l0.length : Int) == (l1.length : Int)) = false := beq_eq_false_iff_ne.mpr c3
  have c3b1 : ((l0.length : Int) != (l1.length : Int)) = true := bne_iff_ne.mpr c3
  have c3b2 : (l0.length == l1.length) = false := by first | simpa using c3 | (simp at c3 ⊢; omega)
  obtain rfl := Option.some.inj H
  go_enter Try.func22, Try.ntmps22
  go_wp2
  repeat (go_quiet (fail); try go_wp2)
  go_ret
  exact ⟨by first | rfl | (simp; done) | (simp [*]; done), by repeat (first | exact Drawn0.refl _ | apply Drawn0.step)⟩

end Go.Proofs.Ytjaihhgkcdnhnaa.PFnTableVersion
