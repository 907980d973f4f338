/- Written by a program of this session (a turned copy of a tool of the kit): functions of the program as plain functions, and that each call does what they tell. Conditions: none. -/
import Derived.Test.YtbpapiejmedkeaaPFnCoordBadx0
import Derived.Test.YtbpapiejmedkeaaPFnCoordBadx2
namespace Go.Proofs.Ytbpapiejmedkeaa.PFnCoordBad
open Go.RowKit Go.Proofs.YtbpapiejmedkeaaW.PrintWords Go.Proofs.YtbpapiejmedkeaaW.PrintLast Go.Proofs.YtbpapiejmedkeaaW.PrintMore
attribute [local go_sem] max2_int min2_int max_two min_two max_three min_three max_four min_four   -- for this text's walks alone
set_option linter.unusedVariables false
set_option linter.unusedSimpArgs false

/-! ### spec_DrawCoordMove: function 19 -/
def spec_DrawCoordMove.j0 : Nat → List Int → Int → Int → Int → Int → Int → Int → Int → Int → Int → Option (Int × Int × Int × Int × Int × Int × Int × Int × Int × Int)
  | 0, _, _, _, _, _, _, _, _, _, _ => none
  | k + 1, x166000, x166001, x172000, x172001, x172002, x172003, x178000, x178001, x178002, x178003 => (spec_l1Rd_pick.f k x166000 x166001 300).bind fun bt180 => ((spec_l1Rd_pick.f k x166000 bt180.2 60000).bind fun bt182 => ((some (([bt180.1, bt182.1, 0, (-1), 60000, 60001] : List Int) : List Int)).bind fun y184 => ((spec_l1Rd_pick.f k x166000 bt182.2 6).bind fun bt187 => (if 0 ≤ bt187.1 then (if bt187.1 < (y184.length : Int) then ((spec_l1Rd_pick.f k x166000 bt187.2 9).bind fun bt190 => (some (x172000, x172001, x172002, x172003, x178000, x178001, x178002, x178003, rd y184 bt187.1, wrap64 (bt190.1 - 4)))) else (none)) else (none)))))
def spec_DrawCoordMove.f (k : Nat) (l0 : List Int) : Option (Int × Int × Int × Int × Int × Int × Int × Int × Int × Int) := (spec_l1Open.f l0).bind fun bt163 => ((spec_l61AnyCoord.f k bt163.1 bt163.2).bind fun bt166 => ((spec_l61AnyCoord.f k bt163.1 bt166.2.2.2.2).bind fun bt172 => ((spec_l1Rd_pick.f k bt163.1 bt172.2.2.2.2 5).bind fun bt178 => (if bt178.1 = 0 then (spec_DrawCoordMove.j0 k bt163.1 bt178.2 bt166.1 bt166.2.1 bt166.2.2.1 bt166.2.2.2.1 bt166.1 bt166.2.1 bt172.2.2.1 bt172.2.2.2.1) else (spec_DrawCoordMove.j0 k bt163.1 bt178.2 bt166.1 bt166.2.1 bt166.2.2.1 bt166.2.2.2.1 bt172.1 bt172.2.1 bt172.2.2.1 bt172.2.2.2.1)))))
theorem spec_DrawCoordMove.mono_l : ∀ k, (∀ y0 y1 y2 y3 y4 y5 y6 y7 y8 y9, LeO (spec_DrawCoordMove.j0 k y0 y1 y2 y3 y4 y5 y6 y7 y8 y9) (spec_DrawCoordMove.j0 (k + 1) y0 y1 y2 y3 y4 y5 y6 y7 y8 y9))
  | 0 => fun _ _ _ _ _ _ _ _ _ _ r h => by simp [spec_DrawCoordMove.j0] at h
  | k + 1 => by
    have ih0 := spec_DrawCoordMove.mono_l k
    · intro y0 y1 y2 y3 y4 y5 y6 y7 y8 y9
      unfold spec_DrawCoordMove.j0
      repeat' first
      | (with_reducible exact ih0 _ _ _ _ _ _ _ _ _ _)
      | (with_reducible exact spec_l1Rd_pick.mono _ _ _ _)
      | (with_reducible exact spec_l61AnyCoord.mono _ _ _)
      | (with_reducible exact LeO.refl _)
      | (with_reducible exact LeO.none _)
      | (with_reducible refine LeO.ite ?_ ?_)
      | (with_reducible refine LeO.bind ?_ (fun _ => ?_))
      | exact ih0 _ _ _ _ _ _ _ _ _ _
      | exact spec_l1Rd_pick.mono _ _ _ _
      | exact spec_l61AnyCoord.mono _ _ _
      | exact LeO.none _
      | refine LeO.ite ?_ ?_
      | refine LeO.bind ?_ (fun _ => ?_)
theorem spec_DrawCoordMove.mono : ∀ a0 k, LeO (spec_DrawCoordMove.f k a0) (spec_DrawCoordMove.f (k + 1) a0) := by
  intro a0 k
  have ih0 := spec_DrawCoordMove.mono_l k
  unfold spec_DrawCoordMove.f
  repeat' first
      | (with_reducible exact ih0 _ _ _ _ _ _ _ _ _ _)
      | (with_reducible exact spec_l1Rd_pick.mono _ _ _ _)
      | (with_reducible exact spec_l61AnyCoord.mono _ _ _)
      | (with_reducible exact LeO.refl _)
      | (with_reducible exact LeO.none _)
      | (with_reducible refine LeO.ite ?_ ?_)
      | (with_reducible refine LeO.bind ?_ (fun _ => ?_))
      | exact ih0 _ _ _ _ _ _ _ _ _ _
      | exact spec_l1Rd_pick.mono _ _ _ _
      | exact spec_l61AnyCoord.mono _ _ _
      | exact LeO.none _
      | refine LeO.ite ?_ ?_
      | refine LeO.bind ?_ (fun _ => ?_)
def spec_DrawCoordMove.T7 : Bool × List (List Nat × List Nat) := (true, [([], []), ([], []), ([], []), ([2], [2]), ([], []), ([4, 3], [4]), ([3, 5], [3, 5]), ([], []), ([7, 5], [7]), ([6, 8], [6, 8]), ([9], [9]), ([], []), ([11, 8], [11]), ([12], [12]), ([0, 12, 0], [0]), ([1, 14, 0, 1, 14], [1]), ([10, 15, 0, 1, 2, 3, 4, 5, 6, 7, 8, 9, 10, 14, 15], [10]), ([13, 16, 0, 1, 2, 3, 4, 5, 6, 7, 8, 9, 10, 11, 12, 13, 14, 15, 16], [13])])
def spec_DrawCoordMove.B7 : List Nat := [0, 0, 0, 4, 0, 28, 60, 0, 188, 508, 1020, 0, 2492, 6588, 6589, 22975, 57343, 131071]
theorem spec_DrawCoordMove.tab7 : rtab .any (opsOf Try.f19 7) = spec_DrawCoordMove.T7 := by kernel_rfl
theorem spec_DrawCoordMove.bits7 : waitsOk spec_DrawCoordMove.T7.2 spec_DrawCoordMove.B7 = true := by kernel_rfl
set_option maxHeartbeats 8000000 in
set_option maxRecDepth 100000 in
theorem spec_DrawCoordMove.calls (k : Nat) (A0 : Option Addr) (c0 : Nat) (l0 : List Int) (r1 : Int) (r2 : Int) (r3 : Int) (r4 : Int) (r5 : Int) (r6 : Int) (r7 : Int) (r8 : Int) (r9 : Int) (r10 : Int) (w : World) (hr0 : Kd.C (Kd.int .u8) w A0 l0.length l0) (hc0 : l0.length ≤ c0) (h : spec_DrawCoordMove.f k l0 = some (r1, r2, r3, r4, r5, r6, r7, r8, r9, r10)) :
    Calls Try.prog 19 #[.slice A0 l0.length c0] w fun e w' => e = .returned (.tuple #[.agg #[.int .i64 r1, .int .i64 r2, .int .i64 r3, .int .i64 r4], .agg #[.int .i64 r5, .int .i64 r6, .int .i64 r7, .int .i64 r8], .int .i64 r9, .int .i64 r10]) ∧ Below w.heap.size w w' := by
  have hu25 := Try.underlying25
  have HR0 := Aside0.mk hr0
  have HC0 := Aside0.mk hc0
  clear hr0 hc0
  have HB := Aside0.mk (Below.refl w.heap.size w)
  have H : ((spec_l1Open.f l0).bind fun bt163 => ((spec_l61AnyCoord.f k bt163.1 bt163.2).bind fun bt166 => ((spec_l61AnyCoord.f k bt163.1 bt166.2.2.2.2).bind fun bt172 => ((spec_l1Rd_pick.f k bt163.1 bt172.2.2.2.2 5).bind fun bt178 => (if bt178.1 = 0 then (spec_DrawCoordMove.j0 k bt163.1 bt178.2 bt166.1 bt166.2.1 bt166.2.2.1 bt166.2.2.2.1 bt166.1 bt166.2.1 bt172.2.2.1 bt172.2.2.2.1) else (spec_DrawCoordMove.j0 k bt163.1 bt178.2 bt166.1 bt166.2.1 bt166.2.2.1 bt166.2.2.2.1 bt172.1 bt172.2.1 bt172.2.2.1 bt172.2.2.2.1)))))) = some (r1, r2, r3, r4, r5, r6, r7, r8, r9, r10) := h
  clear h
  replace H := Option.bind_eq_some_iff.mp H
  obtain ⟨⟨t163, t164⟩, A20, H⟩ := H
  replace H : ((spec_l61AnyCoord.f k t163 t164).bind fun bt166 => ((spec_l61AnyCoord.f k t163 bt166.2.2.2.2).bind fun bt172 => ((spec_l1Rd_pick.f k t163 bt172.2.2.2.2 5).bind fun bt178 => (if bt178.1 = 0 then (spec_DrawCoordMove.j0 k t163 bt178.2 bt166.1 bt166.2.1 bt166.2.2.1 bt166.2.2.2.1 bt166.1 bt166.2.1 bt172.2.2.1 bt172.2.2.2.1) else (spec_DrawCoordMove.j0 k t163 bt178.2 bt166.1 bt166.2.1 bt166.2.2.1 bt166.2.2.2.1 bt172.1 bt172.2.1 bt172.2.2.1 bt172.2.2.2.1))))) = some (r1, r2, r3, r4, r5, r6, r7, r8, r9, r10) := H
  have A2 := Aside0.mk A20
  clear A20
  replace H := Option.bind_eq_some_iff.mp H
  obtain ⟨⟨t166, t167, t168, t169, t170⟩, A30, H⟩ := H
  replace H : ((spec_l61AnyCoord.f k t163 t170).bind fun bt172 => ((spec_l1Rd_pick.f k t163 bt172.2.2.2.2 5).bind fun bt178 => (if bt178.1 = 0 then (spec_DrawCoordMove.j0 k t163 bt178.2 t166 t167 t168 t169 t166 t167 bt172.2.2.1 bt172.2.2.2.1) else (spec_DrawCoordMove.j0 k t163 bt178.2 t166 t167 t168 t169 bt172.1 bt172.2.1 bt172.2.2.1 bt172.2.2.2.1)))) = some (r1, r2, r3, r4, r5, r6, r7, r8, r9, r10) := H
  have A3 := Aside0.mk A30
  clear A30
  replace H := Option.bind_eq_some_iff.mp H
  obtain ⟨⟨t172, t173, t174, t175, t176⟩, A40, H⟩ := H
  replace H : ((spec_l1Rd_pick.f k t163 t176 5).bind fun bt178 => (if bt178.1 = 0 then (spec_DrawCoordMove.j0 k t163 bt178.2 t166 t167 t168 t169 t166 t167 t174 t175) else (spec_DrawCoordMove.j0 k t163 bt178.2 t166 t167 t168 t169 t172 t173 t174 t175))) = some (r1, r2, r3, r4, r5, r6, r7, r8, r9, r10) := H
  have A4 := Aside0.mk A40
  clear A40
  replace H := Option.bind_eq_some_iff.mp H
  obtain ⟨⟨t178, t179⟩, A50, H⟩ := H
  replace H : (if t178 = 0 then (spec_DrawCoordMove.j0 k t163 t179 t166 t167 t168 t169 t166 t167 t174 t175) else (spec_DrawCoordMove.j0 k t163 t179 t166 t167 t168 t169 t172 t173 t174 t175)) = some (r1, r2, r3, r4, r5, r6, r7, r8, r9, r10) := H
  have A5 := Aside0.mk A50
  clear A50
  have HC6 := Aside0.mk H
  clear H
  go_enter Try.func19, Try.ntmps19
  go_upto_if 17 with (first | ((with_reducible refine gate_dst (N := 2) rfl ?_); refine box_event ?hg (N := 2) ?hd (cs := #[.int .i64 0, .int .i64 0, .int .i64 0, .int .i64 0]) (t := 25) ?hr ?_; (case hd => rfl); (case hg => rfl); (case hr => first | (go_simp; done) | (go_simp; rfl)); intro gb161 hg w7 hbox hb; have n0_ := Aside0.mk (below_step (by repeat (first | (with_reducible first | exact HB.out | apply below_alloc | apply pw_below_drewN | apply below_drew1) | exact HB.out)) hb); have n1_ := Aside0.mk (hbox); have n2_ := Aside0.mk ((by rw [hg]; exact (below_size (by repeat (first | (with_reducible first | exact HB.out | apply below_alloc | apply pw_below_drewN | apply below_drew1) | exact HB.out))) : w.heap.size ≤ gb161)); have n3_ := Aside0.mk ((by rw [hg]; exact (below_size (by repeat (first | (with_reducible first | exact HB.out | apply below_alloc | apply pw_below_drewN | apply below_drew1) | exact HB.out))) : w.heap.size ≤ gb161)); clear HB; have HB := n0_; have BK161 := n1_; have GW161 := n2_; have GE161 := n3_; clear n0_ n1_ n2_ n3_; clear hb hbox hg) | ((with_reducible refine gate_dst (N := 3) rfl ?_); refine box_event ?hg (N := 3) ?hd (cs := #[.int .i64 0, .int .i64 0, .int .i64 0, .int .i64 0]) (t := 25) ?hr ?_; (case hd => rfl); (case hg => rfl); (case hr => first | (go_simp; done) | (go_simp; rfl)); intro gb162 hg w8 hbox hb; have n0_ := Aside0.mk (blk_below (g := gb161) (o := .cells #[.int .i64 0, .int .i64 0, .int .i64 0, .int .i64 0] 25 (0, 0)) (by (with_reducible repeat (first | refine blk_drewN ?_ _ | refine blk_drew ?_ | refine blk_alloc ?_ _)); exact BK161.out) hb); have n1_ := Aside0.mk (below_step (by repeat (first | (with_reducible first | exact HB.out | apply below_alloc | apply pw_below_drewN | apply below_drew1 | refine below_set ?_ GE161.out) | exact HB.out)) hb); have n2_ := Aside0.mk (hbox); have n3_ := Aside0.mk ((by rw [hg]; exact (below_size (by repeat (first | (with_reducible first | exact HB.out | apply below_alloc | apply pw_below_drewN | apply below_drew1 | refine below_set ?_ GE161.out) | exact HB.out))) : w.heap.size ≤ gb162)); have n4_ := Aside0.mk ((by rw [hg]; exact (below_size (by repeat (first | (with_reducible first | exact HB.out | apply below_alloc | apply pw_below_drewN | apply below_drew1 | refine below_set ?_ GE161.out) | exact HB.out))) : w.heap.size ≤ gb162)); have n5_ := Aside0.mk ((by rw [hg]; exact Nat.ne_of_lt (blk_lt (g := gb161) (o := .cells #[.int .i64 0, .int .i64 0, .int .i64 0, .int .i64 0] 25 (0, 0)) (by (with_reducible repeat (first | refine blk_drewN ?_ _ | refine blk_drew ?_ | refine blk_alloc ?_ _)); exact BK161.out)) : gb161 ≠ gb162)); have n6_ := Aside0.mk ((by rw [hg]; exact Nat.ne_of_gt (blk_lt (g := gb161) (o := .cells #[.int .i64 0, .int .i64 0, .int .i64 0, .int .i64 0] 25 (0, 0)) (by (with_reducible repeat (first | refine blk_drewN ?_ _ | refine blk_drew ?_ | refine blk_alloc ?_ _)); exact BK161.out)) : gb162 ≠ gb161)); clear BK161; clear HB; have BK161 := n0_; have HB := n1_; have BK162 := n2_; have GW162 := n3_; have GE162 := n4_; have NB161_162 := n5_; have NB162_161 := n6_; clear n0_ n1_ n2_ n3_ n4_ n5_ n6_; clear hb hbox hg) | ((with_reducible refine gate_callee (f := 33) rfl ?_); refine goesL_ (some 10) rfl rfl Try.func33 (by kernel_rfl) rfl #[.slice A0 l0.length c0] rfl (by (try simp only [List.map_toArray, List.map_cons, List.map_nil]); first | done | rfl | (simp only [List.length_drop, List.length_take]; rfl)) ?_; (with_reducible refine (spec_l1Open.calls _ _ l0 t163 t164 w _ ?side1 ?side2 ?side3 A2.out).mono ?_); (case side1 => repeat (first | (with_reducible first | exact HB.out | apply below_alloc | apply pw_below_drewN | apply below_drew1 | refine below_set ?_ GE161.out | refine below_set ?_ GE162.out) | exact HB.out)); (case side2 => exact HR0.out); (case side3 => exact HC0.out); rintro e w9 ⟨g165, rfl, hi, hb, hb2⟩; refine ⟨_, rfl, ?_⟩; have n0_ := Aside0.mk (blk_below (g := gb161) (o := .cells #[.int .i64 0, .int .i64 0, .int .i64 0, .int .i64 0] 25 (0, 0)) (by (with_reducible repeat (first | refine blk_drewN ?_ _ | refine blk_drew ?_ | refine blk_alloc ?_ _)); exact BK161.out) hb2); have n1_ := Aside0.mk (blk_below (g := gb162) (o := .cells #[.int .i64 0, .int .i64 0, .int .i64 0, .int .i64 0] 25 (0, 0)) (by (with_reducible repeat (first | refine blk_drewN ?_ _ | refine blk_drew ?_ | refine blk_alloc ?_ _)); exact BK162.out) hb2); have n2_ := Aside0.mk (hb); have n3_ := Aside0.mk (hi); have n4_ := Aside0.mk (IsS64.ne_blk hi (blk_below (g := gb161) (o := .cells #[.int .i64 0, .int .i64 0, .int .i64 0, .int .i64 0] 25 (0, 0)) (by (with_reducible repeat (first | refine blk_drewN ?_ _ | refine blk_drew ?_ | refine blk_alloc ?_ _)); exact BK161.out) hb2) (by decide)); have n5_ := Aside0.mk (Ne.symm (IsS64.ne_blk hi (blk_below (g := gb161) (o := .cells #[.int .i64 0, .int .i64 0, .int .i64 0, .int .i64 0] 25 (0, 0)) (by (with_reducible repeat (first | refine blk_drewN ?_ _ | refine blk_drew ?_ | refine blk_alloc ?_ _)); exact BK161.out) hb2) (by decide))); have n6_ := Aside0.mk (IsS64.ne_blk hi (blk_below (g := gb162) (o := .cells #[.int .i64 0, .int .i64 0, .int .i64 0, .int .i64 0] 25 (0, 0)) (by (with_reducible repeat (first | refine blk_drewN ?_ _ | refine blk_drew ?_ | refine blk_alloc ?_ _)); exact BK162.out) hb2) (by decide)); have n7_ := Aside0.mk (Ne.symm (IsS64.ne_blk hi (blk_below (g := gb162) (o := .cells #[.int .i64 0, .int .i64 0, .int .i64 0, .int .i64 0] 25 (0, 0)) (by (with_reducible repeat (first | refine blk_drewN ?_ _ | refine blk_drew ?_ | refine blk_alloc ?_ _)); exact BK162.out) hb2) (by decide))); clear BK161; clear BK162; clear HB; have BK161 := n0_; have BK162 := n1_; have HB := n2_; have HI165 := n3_; have NB165_161 := n4_; have NB161_165 := n5_; have NB165_162 := n6_; have NB162_165 := n7_; clear n0_ n1_ n2_ n3_ n4_ n5_ n6_ n7_; (try clear hb); (try clear hb2); (try clear hk); (try clear hi); (try clear A2)) | ((with_reducible refine gate_callee (f := 34) rfl ?_); refine goesL_ (some 12) rfl rfl Try.func34 (by kernel_rfl) rfl #[.pointer (some ⟨g165, 0, none⟩)] rfl (by (try simp only [List.map_toArray, List.map_cons, List.map_nil]); first | done | rfl | (simp only [List.length_drop, List.length_take]; rfl)) ?_; (with_reducible refine (spec_l61AnyCoord.calls k g165 t163 t164 t166 t167 t168 t169 t170 w _ ?side1 ?side2 A3.out).mono ?_); (case side1 => repeat (first | (with_reducible first | exact HI165.out | apply IsS64.alloc | apply IsS64.drewN | apply IsS64.drew | apply IsS64.set_1 | refine IsS64.far ?_ NB165_161.out _ | refine IsS64.far ?_ NB165_162.out _) | exact HI165.out)); (case side2 => repeat (first | (with_reducible first | exact HB.out | apply below_alloc | apply pw_below_drewN | apply below_drew1 | refine below_set ?_ (IsS64.ge HI165.out) | refine below_set ?_ GE161.out | refine below_set ?_ GE162.out) | exact HB.out)); rintro e w10 ⟨rfl, hi, hb, hk⟩; refine ⟨_, rfl, ?_⟩; have n0_ := Aside0.mk (KeepBut.blk hk (g' := gb161) (o := .cells #[.int .i64 0, .int .i64 0, .int .i64 0, .int .i64 0] 25 (0, 0)) (by (with_reducible repeat (first | refine blk_drewN ?_ _ | refine blk_drew ?_ | refine blk_alloc ?_ _)); exact BK161.out) NB161_165.out (by simp)); have n1_ := Aside0.mk (KeepBut.blk hk (g' := gb162) (o := .cells #[.int .i64 0, .int .i64 0, .int .i64 0, .int .i64 0] 25 (0, 0)) (by (with_reducible repeat (first | refine blk_drewN ?_ _ | refine blk_drew ?_ | refine blk_alloc ?_ _)); exact BK162.out) NB162_165.out (by simp)); have n2_ := Aside0.mk (hb); have n3_ := Aside0.mk (hi); clear BK161; clear BK162; clear HB; clear HI165; have BK161 := n0_; have BK162 := n1_; have HB := n2_; have HI165 := n3_; clear n0_ n1_ n2_ n3_; (try clear hb); (try clear hb2); (try clear hk); (try clear hi); (try clear A3)) | ((with_reducible refine gate_dst (N := 7) rfl ?_); refine box_event ?hg (N := 7) ?hd (cs := #[.int .i64 0, .int .i64 0, .int .i64 0, .int .i64 0]) (t := 25) ?hr ?_; (case hd => rfl); (case hg => rfl); (case hr => first | (go_simp; done) | (go_simp; rfl)); intro gb171 hg w11 hbox hb; have n0_ := Aside0.mk (blk_below (g := gb161) (o := .cells #[.int .i64 0, .int .i64 0, .int .i64 0, .int .i64 0] 25 (0, 0)) (by (with_reducible repeat (first | refine blk_drewN ?_ _ | refine blk_drew ?_ | refine blk_alloc ?_ _)); exact BK161.out) hb); have n1_ := Aside0.mk (blk_below (g := gb162) (o := .cells #[.int .i64 0, .int .i64 0, .int .i64 0, .int .i64 0] 25 (0, 0)) (by (with_reducible repeat (first | refine blk_drewN ?_ _ | refine blk_drew ?_ | refine blk_alloc ?_ _)); exact BK162.out) hb); have n2_ := Aside0.mk (IsS64.below (by repeat (first | (with_reducible first | exact HI165.out | apply IsS64.alloc | apply IsS64.drewN | apply IsS64.drew | apply IsS64.set_1 | refine IsS64.far ?_ NB165_161.out _ | refine IsS64.far ?_ NB165_162.out _) | exact HI165.out)) hb); have n3_ := Aside0.mk (below_step (by repeat (first | (with_reducible first | exact HB.out | apply below_alloc | apply pw_below_drewN | apply below_drew1 | refine below_set ?_ (IsS64.ge HI165.out) | refine below_set ?_ GE161.out | refine below_set ?_ GE162.out) | exact HB.out)) hb); have n4_ := Aside0.mk (hbox); have n5_ := Aside0.mk ((by rw [hg]; exact (below_size (by repeat (first | (with_reducible first | exact HB.out | apply below_alloc | apply pw_below_drewN | apply below_drew1 | refine below_set ?_ (IsS64.ge HI165.out) | refine below_set ?_ GE161.out | refine below_set ?_ GE162.out) | exact HB.out))) : w.heap.size ≤ gb171)); have n6_ := Aside0.mk ((by rw [hg]; exact (below_size (by repeat (first | (with_reducible first | exact HB.out | apply below_alloc | apply pw_below_drewN | apply below_drew1 | refine below_set ?_ (IsS64.ge HI165.out) | refine below_set ?_ GE161.out | refine below_set ?_ GE162.out) | exact HB.out))) : w.heap.size ≤ gb171)); have n7_ := Aside0.mk ((by rw [hg]; exact Nat.ne_of_lt (blk_lt (g := gb161) (o := .cells #[.int .i64 0, .int .i64 0, .int .i64 0, .int .i64 0] 25 (0, 0)) (by (with_reducible repeat (first | refine blk_drewN ?_ _ | refine blk_drew ?_ | refine blk_alloc ?_ _)); exact BK161.out)) : gb161 ≠ gb171)); have n8_ := Aside0.mk ((by rw [hg]; exact Nat.ne_of_gt (blk_lt (g := gb161) (o := .cells #[.int .i64 0, .int .i64 0, .int .i64 0, .int .i64 0] 25 (0, 0)) (by (with_reducible repeat (first | refine blk_drewN ?_ _ | refine blk_drew ?_ | refine blk_alloc ?_ _)); exact BK161.out)) : gb171 ≠ gb161)); have n9_ := Aside0.mk ((by rw [hg]; exact Nat.ne_of_lt (blk_lt (g := gb162) (o := .cells #[.int .i64 0, .int .i64 0, .int .i64 0, .int .i64 0] 25 (0, 0)) (by (with_reducible repeat (first | refine blk_drewN ?_ _ | refine blk_drew ?_ | refine blk_alloc ?_ _)); exact BK162.out)) : gb162 ≠ gb171)); have n10_ := Aside0.mk ((by rw [hg]; exact Nat.ne_of_gt (blk_lt (g := gb162) (o := .cells #[.int .i64 0, .int .i64 0, .int .i64 0, .int .i64 0] 25 (0, 0)) (by (with_reducible repeat (first | refine blk_drewN ?_ _ | refine blk_drew ?_ | refine blk_alloc ?_ _)); exact BK162.out)) : gb171 ≠ gb162)); have n11_ := Aside0.mk ((by rw [hg]; exact Nat.ne_of_lt (IsS64.lt (show IsS64 w _ g165 t163 t170 from by repeat (first | (with_reducible first | exact HI165.out | apply IsS64.alloc | apply IsS64.drewN | apply IsS64.drew | apply IsS64.set_1 | refine IsS64.far ?_ NB165_161.out _ | refine IsS64.far ?_ NB165_162.out _) | exact HI165.out))) : g165 ≠ gb171)); have n12_ := Aside0.mk ((by rw [hg]; exact Nat.ne_of_gt (IsS64.lt (show IsS64 w _ g165 t163 t170 from by repeat (first | (with_reducible first | exact HI165.out | apply IsS64.alloc | apply IsS64.drewN | apply IsS64.drew | apply IsS64.set_1 | refine IsS64.far ?_ NB165_161.out _ | refine IsS64.far ?_ NB165_162.out _) | exact HI165.out))) : gb171 ≠ g165)); clear BK161; clear BK162; clear HI165; clear HB; have BK161 := n0_; have BK162 := n1_; have HI165 := n2_; have HB := n3_; have BK171 := n4_; have GW171 := n5_; have GE171 := n6_; have NB161_171 := n7_; have NB171_161 := n8_; have NB162_171 := n9_; have NB171_162 := n10_; have NB165_171 := n11_; have NB171_165 := n12_; clear n0_ n1_ n2_ n3_ n4_ n5_ n6_ n7_ n8_ n9_ n10_ n11_ n12_; clear hb hbox hg; have hnb12 := NB171_161.out; have hnc12 := NB161_171.out; have hnb13 := NB171_162.out; have hnc13 := NB162_171.out; have hnb14 := NB171_165.out; have hnc14 := NB165_171.out; have hcz15_0 : w11.cell? ⟨gb171, 0, none⟩ = some (.int .i64 0) := (blk_cell BK171.out 0).trans rfl; have hcz15_1 : w11.cell? ⟨gb171, 1, none⟩ = some (.int .i64 0) := (blk_cell BK171.out 1).trans rfl; have hcz15_2 : w11.cell? ⟨gb171, 2, none⟩ = some (.int .i64 0) := (blk_cell BK171.out 2).trans rfl; have hcz15_3 : w11.cell? ⟨gb171, 3, none⟩ = some (.int .i64 0) := (blk_cell BK171.out 3).trans rfl; have hfz15_0 := blk_frozen BK171.out 0; have hfz15_1 := blk_frozen BK171.out 1; have hfz15_2 := blk_frozen BK171.out 2; have hfz15_3 := blk_frozen BK171.out 3) | ((with_reducible refine gate_callee (f := 34) rfl ?_); refine goesL_ (some 14) rfl rfl Try.func34 (by kernel_rfl) rfl #[.pointer (some ⟨g165, 0, none⟩)] rfl (by (try simp only [List.map_toArray, List.map_cons, List.map_nil]); first | done | rfl | (simp only [List.length_drop, List.length_take]; rfl)) ?_; (with_reducible refine (spec_l61AnyCoord.calls k g165 t163 t170 t172 t173 t174 t175 t176 w _ ?side1 ?side2 A4.out).mono ?_); (case side1 => repeat (first | (with_reducible first | exact HI165.out | apply IsS64.alloc | apply IsS64.drewN | apply IsS64.drew | apply IsS64.set_1 | refine IsS64.far ?_ NB165_161.out _ | refine IsS64.far ?_ NB165_162.out _ | refine IsS64.far ?_ NB165_171.out _) | exact HI165.out)); (case side2 => repeat (first | (with_reducible first | exact HB.out | apply below_alloc | apply pw_below_drewN | apply below_drew1 | refine below_set ?_ (IsS64.ge HI165.out) | refine below_set ?_ GE161.out | refine below_set ?_ GE162.out | refine below_set ?_ GE171.out) | exact HB.out)); rintro e w16 ⟨rfl, hi, hb, hk⟩; refine ⟨_, rfl, ?_⟩; have n0_ := Aside0.mk (KeepBut.blk hk (g' := gb161) (o := .cells #[.int .i64 0, .int .i64 0, .int .i64 0, .int .i64 0] 25 (0, 0)) (by (with_reducible repeat (first | refine blk_drewN ?_ _ | refine blk_drew ?_ | refine blk_alloc ?_ _)); refine blk_far ?_ NB161_171.out _; (with_reducible repeat (first | refine blk_drewN ?_ _ | refine blk_drew ?_ | refine blk_alloc ?_ _)); refine blk_far ?_ NB161_171.out _; (with_reducible repeat (first | refine blk_drewN ?_ _ | refine blk_drew ?_ | refine blk_alloc ?_ _)); refine blk_far ?_ NB161_171.out _; (with_reducible repeat (first | refine blk_drewN ?_ _ | refine blk_drew ?_ | refine blk_alloc ?_ _)); refine blk_far ?_ NB161_171.out _; (with_reducible repeat (first | refine blk_drewN ?_ _ | refine blk_drew ?_ | refine blk_alloc ?_ _)); exact BK161.out) NB161_165.out (by simp)); have n1_ := Aside0.mk (KeepBut.blk hk (g' := gb162) (o := .cells #[.int .i64 0, .int .i64 0, .int .i64 0, .int .i64 0] 25 (0, 0)) (by (with_reducible repeat (first | refine blk_drewN ?_ _ | refine blk_drew ?_ | refine blk_alloc ?_ _)); refine blk_far ?_ NB162_171.out _; (with_reducible repeat (first | refine blk_drewN ?_ _ | refine blk_drew ?_ | refine blk_alloc ?_ _)); refine blk_far ?_ NB162_171.out _; (with_reducible repeat (first | refine blk_drewN ?_ _ | refine blk_drew ?_ | refine blk_alloc ?_ _)); refine blk_far ?_ NB162_171.out _; (with_reducible repeat (first | refine blk_drewN ?_ _ | refine blk_drew ?_ | refine blk_alloc ?_ _)); refine blk_far ?_ NB162_171.out _; (with_reducible repeat (first | refine blk_drewN ?_ _ | refine blk_drew ?_ | refine blk_alloc ?_ _)); exact BK162.out) NB162_165.out (by simp)); have n2_ := Aside0.mk (KeepBut.blk hk (g' := gb171) (o := .cells #[.int .i64 t166, .int .i64 t167, .int .i64 t168, .int .i64 t169] 25 (0, 0)) (by (with_reducible repeat (first | refine blk_drewN ?_ _ | refine blk_drew ?_ | refine blk_alloc ?_ _)); refine blk_put (cs := #[.int .i64 t166, .int .i64 t167, .int .i64 t168, .int .i64 0]) ?_ 3 _ rfl; (with_reducible repeat (first | refine blk_drewN ?_ _ | refine blk_drew ?_ | refine blk_alloc ?_ _)); refine blk_put (cs := #[.int .i64 t166, .int .i64 t167, .int .i64 0, .int .i64 0]) ?_ 2 _ rfl; (with_reducible repeat (first | refine blk_drewN ?_ _ | refine blk_drew ?_ | refine blk_alloc ?_ _)); refine blk_put (cs := #[.int .i64 t166, .int .i64 0, .int .i64 0, .int .i64 0]) ?_ 1 _ rfl; (with_reducible repeat (first | refine blk_drewN ?_ _ | refine blk_drew ?_ | refine blk_alloc ?_ _)); refine blk_put (cs := #[.int .i64 0, .int .i64 0, .int .i64 0, .int .i64 0]) ?_ 0 _ rfl; (with_reducible repeat (first | refine blk_drewN ?_ _ | refine blk_drew ?_ | refine blk_alloc ?_ _)); exact BK171.out) NB171_165.out (by simp)); have n3_ := Aside0.mk (hb); have n4_ := Aside0.mk (hi); clear BK161; clear BK162; clear BK171; clear HB; clear HI165; have BK161 := n0_; have BK162 := n1_; have BK171 := n2_; have HB := n3_; have HI165 := n4_; clear n0_ n1_ n2_ n3_ n4_; (try clear hb); (try clear hb2); (try clear hk); (try clear hi); (try clear A4)) | ((with_reducible refine gate_dst (N := 8) rfl ?_); refine box_event ?hg (N := 8) ?hd (cs := #[.int .i64 0, .int .i64 0, .int .i64 0, .int .i64 0]) (t := 25) ?hr ?_; (case hd => rfl); (case hg => rfl); (case hr => first | (go_simp; done) | (go_simp; rfl)); intro gb177 hg w17 hbox hb; have n0_ := Aside0.mk (blk_below (g := gb161) (o := .cells #[.int .i64 0, .int .i64 0, .int .i64 0, .int .i64 0] 25 (0, 0)) (by (with_reducible repeat (first | refine blk_drewN ?_ _ | refine blk_drew ?_ | refine blk_alloc ?_ _)); exact BK161.out) hb); have n1_ := Aside0.mk (blk_below (g := gb162) (o := .cells #[.int .i64 0, .int .i64 0, .int .i64 0, .int .i64 0] 25 (0, 0)) (by (with_reducible repeat (first | refine blk_drewN ?_ _ | refine blk_drew ?_ | refine blk_alloc ?_ _)); exact BK162.out) hb); have n2_ := Aside0.mk (IsS64.below (by repeat (first | (with_reducible first | exact HI165.out | apply IsS64.alloc | apply IsS64.drewN | apply IsS64.drew | apply IsS64.set_1 | refine IsS64.far ?_ NB165_161.out _ | refine IsS64.far ?_ NB165_162.out _ | refine IsS64.far ?_ NB165_171.out _) | exact HI165.out)) hb); have n3_ := Aside0.mk (blk_below (g := gb171) (o := .cells #[.int .i64 t166, .int .i64 t167, .int .i64 t168, .int .i64 t169] 25 (0, 0)) (by (with_reducible repeat (first | refine blk_drewN ?_ _ | refine blk_drew ?_ | refine blk_alloc ?_ _)); exact BK171.out) hb); have n4_ := Aside0.mk (below_step (by repeat (first | (with_reducible first | exact HB.out | apply below_alloc | apply pw_below_drewN | apply below_drew1 | refine below_set ?_ (IsS64.ge HI165.out) | refine below_set ?_ GE161.out | refine below_set ?_ GE162.out | refine below_set ?_ GE171.out) | exact HB.out)) hb); have n5_ := Aside0.mk (hbox); have n6_ := Aside0.mk ((by rw [hg]; exact (below_size (by repeat (first | (with_reducible first | exact HB.out | apply below_alloc | apply pw_below_drewN | apply below_drew1 | refine below_set ?_ (IsS64.ge HI165.out) | refine below_set ?_ GE161.out | refine below_set ?_ GE162.out | refine below_set ?_ GE171.out) | exact HB.out))) : w.heap.size ≤ gb177)); have n7_ := Aside0.mk ((by rw [hg]; exact (below_size (by repeat (first | (with_reducible first | exact HB.out | apply below_alloc | apply pw_below_drewN | apply below_drew1 | refine below_set ?_ (IsS64.ge HI165.out) | refine below_set ?_ GE161.out | refine below_set ?_ GE162.out | refine below_set ?_ GE171.out) | exact HB.out))) : w.heap.size ≤ gb177)); have n8_ := Aside0.mk ((by rw [hg]; exact Nat.ne_of_lt (blk_lt (g := gb161) (o := .cells #[.int .i64 0, .int .i64 0, .int .i64 0, .int .i64 0] 25 (0, 0)) (by (with_reducible repeat (first | refine blk_drewN ?_ _ | refine blk_drew ?_ | refine blk_alloc ?_ _)); exact BK161.out)) : gb161 ≠ gb177)); have n9_ := Aside0.mk ((by rw [hg]; exact Nat.ne_of_gt (blk_lt (g := gb161) (o := .cells #[.int .i64 0, .int .i64 0, .int .i64 0, .int .i64 0] 25 (0, 0)) (by (with_reducible repeat (first | refine blk_drewN ?_ _ | refine blk_drew ?_ | refine blk_alloc ?_ _)); exact BK161.out)) : gb177 ≠ gb161)); have n10_ := Aside0.mk ((by rw [hg]; exact Nat.ne_of_lt (blk_lt (g := gb162) (o := .cells #[.int .i64 0, .int .i64 0, .int .i64 0, .int .i64 0] 25 (0, 0)) (by (with_reducible repeat (first | refine blk_drewN ?_ _ | refine blk_drew ?_ | refine blk_alloc ?_ _)); exact BK162.out)) : gb162 ≠ gb177)); have n11_ := Aside0.mk ((by rw [hg]; exact Nat.ne_of_gt (blk_lt (g := gb162) (o := .cells #[.int .i64 0, .int .i64 0, .int .i64 0, .int .i64 0] 25 (0, 0)) (by (with_reducible repeat (first | refine blk_drewN ?_ _ | refine blk_drew ?_ | refine blk_alloc ?_ _)); exact BK162.out)) : gb177 ≠ gb162)); have n12_ := Aside0.mk ((by rw [hg]; exact Nat.ne_of_lt (blk_lt (g := gb171) (o := .cells #[.int .i64 t166, .int .i64 t167, .int .i64 t168, .int .i64 t169] 25 (0, 0)) (by (with_reducible repeat (first | refine blk_drewN ?_ _ | refine blk_drew ?_ | refine blk_alloc ?_ _)); exact BK171.out)) : gb171 ≠ gb177)); have n13_ := Aside0.mk ((by rw [hg]; exact Nat.ne_of_gt (blk_lt (g := gb171) (o := .cells #[.int .i64 t166, .int .i64 t167, .int .i64 t168, .int .i64 t169] 25 (0, 0)) (by (with_reducible repeat (first | refine blk_drewN ?_ _ | refine blk_drew ?_ | refine blk_alloc ?_ _)); exact BK171.out)) : gb177 ≠ gb171)); have n14_ := Aside0.mk ((by rw [hg]; exact Nat.ne_of_lt (IsS64.lt (show IsS64 w _ g165 t163 t176 from by repeat (first | (with_reducible first | exact HI165.out | apply IsS64.alloc | apply IsS64.drewN | apply IsS64.drew | apply IsS64.set_1 | refine IsS64.far ?_ NB165_161.out _ | refine IsS64.far ?_ NB165_162.out _ | refine IsS64.far ?_ NB165_171.out _) | exact HI165.out))) : g165 ≠ gb177)); have n15_ := Aside0.mk ((by rw [hg]; exact Nat.ne_of_gt (IsS64.lt (show IsS64 w _ g165 t163 t176 from by repeat (first | (with_reducible first | exact HI165.out | apply IsS64.alloc | apply IsS64.drewN | apply IsS64.drew | apply IsS64.set_1 | refine IsS64.far ?_ NB165_161.out _ | refine IsS64.far ?_ NB165_162.out _ | refine IsS64.far ?_ NB165_171.out _) | exact HI165.out))) : gb177 ≠ g165)); clear BK161; clear BK162; clear HI165; clear BK171; clear HB; have BK161 := n0_; have BK162 := n1_; have HI165 := n2_; have BK171 := n3_; have HB := n4_; have BK177 := n5_; have GW177 := n6_; have GE177 := n7_; have NB161_177 := n8_; have NB177_161 := n9_; have NB162_177 := n10_; have NB177_162 := n11_; have NB171_177 := n12_; have NB177_171 := n13_; have NB165_177 := n14_; have NB177_165 := n15_; clear n0_ n1_ n2_ n3_ n4_ n5_ n6_ n7_ n8_ n9_ n10_ n11_ n12_ n13_ n14_ n15_; clear hb hbox hg; have hnb18 := NB177_161.out; have hnc18 := NB161_177.out; have hnb19 := NB177_162.out; have hnc19 := NB162_177.out; have hnb20 := NB177_171.out; have hnc20 := NB171_177.out; have hnb21 := NB177_165.out; have hnc21 := NB165_177.out; have hcz22_0 : w17.cell? ⟨gb177, 0, none⟩ = some (.int .i64 0) := (blk_cell BK177.out 0).trans rfl; have hcz22_1 : w17.cell? ⟨gb177, 1, none⟩ = some (.int .i64 0) := (blk_cell BK177.out 1).trans rfl; have hcz22_2 : w17.cell? ⟨gb177, 2, none⟩ = some (.int .i64 0) := (blk_cell BK177.out 2).trans rfl; have hcz22_3 : w17.cell? ⟨gb177, 3, none⟩ = some (.int .i64 0) := (blk_cell BK177.out 3).trans rfl; have hfz22_0 := blk_frozen BK177.out 0; have hfz22_1 := blk_frozen BK177.out 1; have hfz22_2 := blk_frozen BK177.out 2; have hfz22_3 := blk_frozen BK177.out 3) | ((with_reducible refine gate_callee (f := 37) rfl ?_); refine goesL_ (some 16) rfl rfl Try.func37 (by kernel_rfl) rfl #[.pointer (some ⟨g165, 0, none⟩), .int .i64 5] rfl (by (try simp only [List.map_toArray, List.map_cons, List.map_nil]); first | done | rfl | (simp only [List.length_drop, List.length_take]; rfl)) ?_; (with_reducible refine (spec_l1Rd_pick.calls k g165 t163 t176 5 t178 t179 w _ ?side1 ?side2 A5.out).mono ?_); (case side1 => repeat (first | (with_reducible first | exact HI165.out | apply IsS64.alloc | apply IsS64.drewN | apply IsS64.drew | apply IsS64.set_1 | refine IsS64.far ?_ NB165_161.out _ | refine IsS64.far ?_ NB165_162.out _ | refine IsS64.far ?_ NB165_171.out _ | refine IsS64.far ?_ NB165_177.out _) | exact HI165.out)); (case side2 => repeat (first | (with_reducible first | exact HB.out | apply below_alloc | apply pw_below_drewN | apply below_drew1 | refine below_set ?_ (IsS64.ge HI165.out) | refine below_set ?_ GE161.out | refine below_set ?_ GE162.out | refine below_set ?_ GE171.out | refine below_set ?_ GE177.out) | exact HB.out)); rintro e w23 ⟨rfl, hi, hb, hk⟩; refine ⟨_, rfl, ?_⟩; have n0_ := Aside0.mk (KeepBut.blk hk (g' := gb161) (o := .cells #[.int .i64 0, .int .i64 0, .int .i64 0, .int .i64 0] 25 (0, 0)) (by (with_reducible repeat (first | refine blk_drewN ?_ _ | refine blk_drew ?_ | refine blk_alloc ?_ _)); refine blk_far ?_ NB161_177.out _; (with_reducible repeat (first | refine blk_drewN ?_ _ | refine blk_drew ?_ | refine blk_alloc ?_ _)); refine blk_far ?_ NB161_177.out _; (with_reducible repeat (first | refine blk_drewN ?_ _ | refine blk_drew ?_ | refine blk_alloc ?_ _)); refine blk_far ?_ NB161_177.out _; (with_reducible repeat (first | refine blk_drewN ?_ _ | refine blk_drew ?_ | refine blk_alloc ?_ _)); refine blk_far ?_ NB161_177.out _; (with_reducible repeat (first | refine blk_drewN ?_ _ | refine blk_drew ?_ | refine blk_alloc ?_ _)); exact BK161.out) NB161_165.out (by simp)); have n1_ := Aside0.mk (KeepBut.blk hk (g' := gb162) (o := .cells #[.int .i64 0, .int .i64 0, .int .i64 0, .int .i64 0] 25 (0, 0)) (by (with_reducible repeat (first | refine blk_drewN ?_ _ | refine blk_drew ?_ | refine blk_alloc ?_ _)); refine blk_far ?_ NB162_177.out _; (with_reducible repeat (first | refine blk_drewN ?_ _ | refine blk_drew ?_ | refine blk_alloc ?_ _)); refine blk_far ?_ NB162_177.out _; (with_reducible repeat (first | refine blk_drewN ?_ _ | refine blk_drew ?_ | refine blk_alloc ?_ _)); refine blk_far ?_ NB162_177.out _; (with_reducible repeat (first | refine blk_drewN ?_ _ | refine blk_drew ?_ | refine blk_alloc ?_ _)); refine blk_far ?_ NB162_177.out _; (with_reducible repeat (first | refine blk_drewN ?_ _ | refine blk_drew ?_ | refine blk_alloc ?_ _)); exact BK162.out) NB162_165.out (by simp)); have n2_ := Aside0.mk (KeepBut.blk hk (g' := gb171) (o := .cells #[.int .i64 t166, .int .i64 t167, .int .i64 t168, .int .i64 t169] 25 (0, 0)) (by (with_reducible repeat (first | refine blk_drewN ?_ _ | refine blk_drew ?_ | refine blk_alloc ?_ _)); refine blk_far ?_ NB171_177.out _; (with_reducible repeat (first | refine blk_drewN ?_ _ | refine blk_drew ?_ | refine blk_alloc ?_ _)); refine blk_far ?_ NB171_177.out _; (with_reducible repeat (first | refine blk_drewN ?_ _ | refine blk_drew ?_ | refine blk_alloc ?_ _)); refine blk_far ?_ NB171_177.out _; (with_reducible repeat (first | refine blk_drewN ?_ _ | refine blk_drew ?_ | refine blk_alloc ?_ _)); refine blk_far ?_ NB171_177.out _; (with_reducible repeat (first | refine blk_drewN ?_ _ | refine blk_drew ?_ | refine blk_alloc ?_ _)); exact BK171.out) NB171_165.out (by simp)); have n3_ := Aside0.mk (KeepBut.blk hk (g' := gb177) (o := .cells #[.int .i64 t172, .int .i64 t173, .int .i64 t174, .int .i64 t175] 25 (0, 0)) (by (with_reducible repeat (first | refine blk_drewN ?_ _ | refine blk_drew ?_ | refine blk_alloc ?_ _)); refine blk_put (cs := #[.int .i64 t172, .int .i64 t173, .int .i64 t174, .int .i64 0]) ?_ 3 _ rfl; (with_reducible repeat (first | refine blk_drewN ?_ _ | refine blk_drew ?_ | refine blk_alloc ?_ _)); refine blk_put (cs := #[.int .i64 t172, .int .i64 t173, .int .i64 0, .int .i64 0]) ?_ 2 _ rfl; (with_reducible repeat (first | refine blk_drewN ?_ _ | refine blk_drew ?_ | refine blk_alloc ?_ _)); refine blk_put (cs := #[.int .i64 t172, .int .i64 0, .int .i64 0, .int .i64 0]) ?_ 1 _ rfl; (with_reducible repeat (first | refine blk_drewN ?_ _ | refine blk_drew ?_ | refine blk_alloc ?_ _)); refine blk_put (cs := #[.int .i64 0, .int .i64 0, .int .i64 0, .int .i64 0]) ?_ 0 _ rfl; (with_reducible repeat (first | refine blk_drewN ?_ _ | refine blk_drew ?_ | refine blk_alloc ?_ _)); exact BK177.out) NB177_165.out (by simp)); have n4_ := Aside0.mk (hb); have n5_ := Aside0.mk (hi); clear BK161; clear BK162; clear BK171; clear BK177; clear HB; clear HI165; have BK161 := n0_; have BK162 := n1_; have BK171 := n2_; have BK177 := n3_; have HB := n4_; have HI165 := n5_; clear n0_ n1_ n2_ n3_ n4_ n5_; (try clear hb); (try clear hb2); (try clear hk); (try clear hi); (try clear A5)))
  (try simp only [Act.put, List.setIfInBounds_toArray, List.set_cons_zero, List.set_cons_succ])
  go_cut [] (fun wc => ∃ (kq : Nat) (x178000_5 : Int) (x178001_5 : Int), Aside0 (spec_DrawCoordMove.j0 kq t163 t179 t166 t167 t168 t169 x178000_5 x178001_5 t174 t175 = some (r1, r2, r3, r4, r5, r6, r7, r8, r9, r10)) ∧ Aside0 (kq ≤ k) ∧ Aside0 (wc.heap[gb161]? = some (.cells #[.int .i64 0, .int .i64 0, .int .i64 0, .int .i64 0] 25 (0, 0))) ∧ Aside0 (wc.heap[gb162]? = some (.cells #[.int .i64 0, .int .i64 0, .int .i64 0, .int .i64 0] 25 (0, 0))) ∧ Aside0 (wc.heap[gb171]? = some (.cells #[.int .i64 t166, .int .i64 t167, .int .i64 t168, .int .i64 t169] 25 (0, 0))) ∧ Aside0 (wc.heap[gb177]? = some (.cells #[.int .i64 x178000_5, .int .i64 x178001_5, .int .i64 t174, .int .i64 t175] 25 (0, 0))) ∧ Aside0 (IsS64 w wc g165 t163 t179) ∧ Aside0 (Below w.heap.size w wc))
  case first =>
    have H := HC6.out
    clear HC6
    by_cases c24 : t178 = 0
    · rw [if_pos c24] at H
      have c24b0 : (t178 == 0) = true := beq_iff_eq.mpr c24
      have c24b1 : (t178 != 0) = false := bne_eq_false_iff_eq.mpr c24
      clear c24
      (first | rw [c24b0] | (simp only [i64_w, i32_w]; rw [c24b0]) | skip)
      have H' := Aside0.mk H
      clear H
      have hnb25 := NB171_161.out
      have hnc25 := NB161_171.out
      have hnb26 := NB171_162.out
      have hnc26 := NB162_171.out
      have hnb27 := NB171_177.out
      have hnc27 := NB177_171.out
      have hnb28 := NB171_165.out
      have hnc28 := NB165_171.out
      have hcz29_0 : w23.cell? ⟨gb171, 0, none⟩ = some (.int .i64 t166) := (blk_cell BK171.out 0).trans rfl
      have hcz29_1 : w23.cell? ⟨gb171, 1, none⟩ = some (.int .i64 t167) := (blk_cell BK171.out 1).trans rfl
      have hcz29_2 : w23.cell? ⟨gb171, 2, none⟩ = some (.int .i64 t168) := (blk_cell BK171.out 2).trans rfl
      have hcz29_3 : w23.cell? ⟨gb171, 3, none⟩ = some (.int .i64 t169) := (blk_cell BK171.out 3).trans rfl
      have hfz29_0 := blk_frozen BK171.out 0
      have hfz29_1 := blk_frozen BK171.out 1
      have hfz29_2 := blk_frozen BK171.out 2
      have hfz29_3 := blk_frozen BK171.out 3
      have hnb30 := NB177_161.out
      have hnc30 := NB161_177.out
      have hnb31 := NB177_162.out
      have hnc31 := NB162_177.out
      have hnb32 := NB177_165.out
      have hnc32 := NB165_177.out
      have hcz33_0 : w23.cell? ⟨gb177, 0, none⟩ = some (.int .i64 t172) := (blk_cell BK177.out 0).trans rfl
      have hcz33_1 : w23.cell? ⟨gb177, 1, none⟩ = some (.int .i64 t173) := (blk_cell BK177.out 1).trans rfl
      have hcz33_2 : w23.cell? ⟨gb177, 2, none⟩ = some (.int .i64 t174) := (blk_cell BK177.out 2).trans rfl
      have hcz33_3 : w23.cell? ⟨gb177, 3, none⟩ = some (.int .i64 t175) := (blk_cell BK177.out 3).trans rfl
      have hfz33_0 := blk_frozen BK177.out 0
      have hfz33_1 := blk_frozen BK177.out 1
      have hfz33_2 := blk_frozen BK177.out 2
      have hfz33_3 := blk_frozen BK177.out 3
      go_wp2
      go_meet
      case rel => exact ⟨_, (t166), (t167), H', ⟨by first | omega | exact Nat.le_refl _⟩, ⟨by (with_reducible repeat (first | refine blk_drewN ?_ _ | refine blk_drew ?_ | refine blk_alloc ?_ _)); refine blk_far ?_ NB161_177.out _; (with_reducible repeat (first | refine blk_drewN ?_ _ | refine blk_drew ?_ | refine blk_alloc ?_ _)); refine blk_far ?_ NB161_177.out _; (with_reducible repeat (first | refine blk_drewN ?_ _ | refine blk_drew ?_ | refine blk_alloc ?_ _)); exact BK161.out⟩, ⟨by (with_reducible repeat (first | refine blk_drewN ?_ _ | refine blk_drew ?_ | refine blk_alloc ?_ _)); refine blk_far ?_ NB162_177.out _; (with_reducible repeat (first | refine blk_drewN ?_ _ | refine blk_drew ?_ | refine blk_alloc ?_ _)); refine blk_far ?_ NB162_177.out _; (with_reducible repeat (first | refine blk_drewN ?_ _ | refine blk_drew ?_ | refine blk_alloc ?_ _)); exact BK162.out⟩, ⟨by (with_reducible repeat (first | refine blk_drewN ?_ _ | refine blk_drew ?_ | refine blk_alloc ?_ _)); refine blk_far ?_ NB171_177.out _; (with_reducible repeat (first | refine blk_drewN ?_ _ | refine blk_drew ?_ | refine blk_alloc ?_ _)); refine blk_far ?_ NB171_177.out _; (with_reducible repeat (first | refine blk_drewN ?_ _ | refine blk_drew ?_ | refine blk_alloc ?_ _)); exact BK171.out⟩, ⟨by (with_reducible repeat (first | refine blk_drewN ?_ _ | refine blk_drew ?_ | refine blk_alloc ?_ _)); refine blk_put (cs := #[.int .i64 t166, .int .i64 t173, .int .i64 t174, .int .i64 t175]) ?_ 1 _ rfl; (with_reducible repeat (first | refine blk_drewN ?_ _ | refine blk_drew ?_ | refine blk_alloc ?_ _)); refine blk_put (cs := #[.int .i64 t172, .int .i64 t173, .int .i64 t174, .int .i64 t175]) ?_ 0 _ rfl; (with_reducible repeat (first | refine blk_drewN ?_ _ | refine blk_drew ?_ | refine blk_alloc ?_ _)); exact BK177.out⟩, ⟨by repeat (first | (with_reducible first | exact HI165.out | apply IsS64.alloc | apply IsS64.drewN | apply IsS64.drew | apply IsS64.set_1 | refine IsS64.far ?_ NB165_161.out _ | refine IsS64.far ?_ NB165_162.out _ | refine IsS64.far ?_ NB165_171.out _ | refine IsS64.far ?_ NB165_177.out _) | exact HI165.out)⟩, ⟨by repeat (first | (with_reducible first | exact HB.out | apply below_alloc | apply pw_below_drewN | apply below_drew1 | refine below_set ?_ (IsS64.ge HI165.out) | refine below_set ?_ GE161.out | refine below_set ?_ GE162.out | refine below_set ?_ GE171.out | refine below_set ?_ GE177.out) | exact HB.out)⟩⟩
    · rw [if_neg c24] at H
      have c24b0 : (t178 == 0) = false := beq_eq_false_iff_ne.mpr c24
      have c24b1 : (t178 != 0) = true := bne_iff_ne.mpr c24
      (first | rw [c24b0] | (simp only [i64_w, i32_w]; rw [c24b0]) | skip)
      have H' := Aside0.mk H
      clear H
      go_wp2
      go_meet
      case rel => exact ⟨_, (t172), (t173), H', ⟨by first | omega | exact Nat.le_refl _⟩, ⟨by (with_reducible repeat (first | refine blk_drewN ?_ _ | refine blk_drew ?_ | refine blk_alloc ?_ _)); exact BK161.out⟩, ⟨by (with_reducible repeat (first | refine blk_drewN ?_ _ | refine blk_drew ?_ | refine blk_alloc ?_ _)); exact BK162.out⟩, ⟨by (with_reducible repeat (first | refine blk_drewN ?_ _ | refine blk_drew ?_ | refine blk_alloc ?_ _)); exact BK171.out⟩, ⟨by (with_reducible repeat (first | refine blk_drewN ?_ _ | refine blk_drew ?_ | refine blk_alloc ?_ _)); exact BK177.out⟩, ⟨by repeat (first | (with_reducible first | exact HI165.out | apply IsS64.alloc | apply IsS64.drewN | apply IsS64.drew | apply IsS64.set_1 | refine IsS64.far ?_ NB165_161.out _ | refine IsS64.far ?_ NB165_162.out _ | refine IsS64.far ?_ NB165_171.out _ | refine IsS64.far ?_ NB165_177.out _) | exact HI165.out)⟩, ⟨by repeat (first | (with_reducible first | exact HB.out | apply below_alloc | apply pw_below_drewN | apply below_drew1 | refine below_set ?_ (IsS64.ge HI165.out) | refine below_set ?_ GE161.out | refine below_set ?_ GE162.out | refine below_set ?_ GE171.out | refine below_set ?_ GE177.out) | exact HB.out)⟩⟩
  case rest =>
    clear HC6
    try clear c1
    try clear c2
    try clear p2
    try clear c3
    try clear c12
    try clear c13
    try clear c14
    try clear c18
    try clear c19
    try clear c20
    try clear c21
    try clear c24
    try clear c24b0
    try clear c24b1
    try clear c25
    try clear c26
    try clear c27
    try clear c28
    try clear c30
    try clear c31
    try clear c32
    try clear c33
    try clear hcz15_0
    try clear hcz15_1
    try clear hcz15_2
    try clear hcz15_3
    try clear hcz22_0
    try clear hcz22_1
    try clear hcz22_2
    try clear hcz22_3
    try clear hcz29_0
    try clear hcz29_1
    try clear hcz29_2
    try clear hcz29_3
    try clear hcz33_0
    try clear hcz33_1
    try clear hcz33_2
    try clear hcz33_3
    try clear hfz15_0
    try clear hfz15_1
    try clear hfz15_2
    try clear hfz15_3
    try clear hfz22_0
    try clear hfz22_1
    try clear hfz22_2
    try clear hfz22_3
    try clear hfz29_0
    try clear hfz29_1
    try clear hfz29_2
    try clear hfz29_3
    try clear hfz33_0
    try clear hfz33_1
    try clear hfz33_2
    try clear hfz33_3
    obtain ⟨kq, x178000_5, x178001_5, HA, HJ5, BK161, BK162, BK171, BK177, HI165, HB⟩ := hcut
    cases kq with
    | zero => exact absurd HA.out (by simp [spec_DrawCoordMove.j0])
    | succ kj5 =>
      have H := HA.out
      clear HA
      simp only [spec_DrawCoordMove.j0] at H
      replace H := Option.bind_eq_some_iff.mp H
      obtain ⟨⟨t180, t181⟩, A340, H⟩ := H
      replace H : ((spec_l1Rd_pick.f kj5 t163 t181 60000).bind fun bt182 => ((some (([t180, bt182.1, 0, (-1), 60000, 60001] : List Int) : List Int)).bind fun y184 => ((spec_l1Rd_pick.f kj5 t163 bt182.2 6).bind fun bt187 => (if 0 ≤ bt187.1 then (if bt187.1 < (y184.length : Int) then ((spec_l1Rd_pick.f kj5 t163 bt187.2 9).bind fun bt190 => (some (t166, t167, t168, t169, x178000_5, x178001_5, t174, t175, rd y184 bt187.1, wrap64 (bt190.1 - 4)))) else (none)) else (none))))) = some (r1, r2, r3, r4, r5, r6, r7, r8, r9, r10) := H
      have A34 := Aside0.mk A340
      clear A340
      replace H := Option.bind_eq_some_iff.mp H
      obtain ⟨⟨t182, t183⟩, A350, H⟩ := H
      replace H : ((some (([t180, t182, 0, (-1), 60000, 60001] : List Int) : List Int)).bind fun y184 => ((spec_l1Rd_pick.f kj5 t163 t183 6).bind fun bt187 => (if 0 ≤ bt187.1 then (if bt187.1 < (y184.length : Int) then ((spec_l1Rd_pick.f kj5 t163 bt187.2 9).bind fun bt190 => (some (t166, t167, t168, t169, x178000_5, x178001_5, t174, t175, rd y184 bt187.1, wrap64 (bt190.1 - 4)))) else (none)) else (none)))) = some (r1, r2, r3, r4, r5, r6, r7, r8, r9, r10) := H
      have A35 := Aside0.mk A350
      clear A350
      obtain ⟨y184, hy184⟩ : ∃ y_ : List Int, y_ = (([t180, t182, 0, (-1), 60000, 60001] : List Int)) := ⟨_, rfl⟩
      replace H : ((spec_l1Rd_pick.f kj5 t163 t183 6).bind fun bt187 => (if 0 ≤ bt187.1 then (if bt187.1 < (y184.length : Int) then ((spec_l1Rd_pick.f kj5 t163 bt187.2 9).bind fun bt190 => (some (t166, t167, t168, t169, x178000_5, x178001_5, t174, t175, rd y184 bt187.1, wrap64 (bt190.1 - 4)))) else (none)) else (none))) = some (r1, r2, r3, r4, r5, r6, r7, r8, r9, r10) := by first | (rw [hy184]; with_reducible exact H) | (have H2_ := (Option.bind_some _ _).symm.trans H; rw [hy184]; with_reducible exact H2_) | (have H2_ := (Option.bind_some _ _).symm.trans H; with_reducible exact H2_) | with_reducible exact H | (rw [hy184]; exact H) | exact H
      have Ny184 := Aside0.mk hy184
      clear hy184
      replace H := Option.bind_eq_some_iff.mp H
      obtain ⟨⟨t187, t188⟩, A360, H⟩ := H
      replace H : (if 0 ≤ t187 then (if t187 < (y184.length : Int) then ((spec_l1Rd_pick.f kj5 t163 t188 9).bind fun bt190 => (some (t166, t167, t168, t169, x178000_5, x178001_5, t174, t175, rd y184 t187, wrap64 (bt190.1 - 4)))) else (none)) else (none)) = some (r1, r2, r3, r4, r5, r6, r7, r8, r9, r10) := H
      have A36 := Aside0.mk A360
      clear A360
      by_cases c37 : 0 ≤ t187
      · rw [if_pos c37] at H
        have c37b0 : decide (0 ≤ t187) = true := decide_eq_true c37
        clear c37
        by_cases c38 : t187 < (y184.length : Int)
        · rw [if_pos c38] at H
          have c38b0 : decide (t187 < (y184.length : Int)) = true := decide_eq_true c38
          clear c38
          replace H := Option.bind_eq_some_iff.mp H
          obtain ⟨⟨t190, t191⟩, A390, H⟩ := H
          replace H : (some (t166, t167, t168, t169, x178000_5, x178001_5, t174, t175, rd y184 t187, wrap64 (t190 - 4))) = some (r1, r2, r3, r4, r5, r6, r7, r8, r9, r10) := H
          have A39 := Aside0.mk A390
          clear A390
          simp only [Option.some.injEq, Prod.mk.injEq] at H
          obtain ⟨rfl, rfl, rfl, rfl, rfl, rfl, rfl, rfl, rfl, rfl⟩ := H
          try go_wp2
          have pi189 : (0 ≤ (t187 : Int)) = True := eq_true (of_decide_eq_true (by first | (with_reducible assumption) | assumption))
          have qi189 : (t187 < (y184.length : Int)) = True := eq_true (of_decide_eq_true (by first | (with_reducible assumption) | assumption))
          have n0_ := Aside0.mk (blk_drew BK161.out)
          have n1_ := Aside0.mk (blk_drew BK162.out)
          have n2_ := Aside0.mk (blk_drew BK171.out)
          have n3_ := Aside0.mk (blk_drew BK177.out)
          have n4_ := Aside0.mk (IsS64.drew HI165.out)
          have n5_ := Aside0.mk (below_drew1 HB.out)
          clear BK161
          clear BK162
          clear BK171
          clear BK177
          clear HI165
          clear HB
          have BK161 := n0_
          have BK162 := n1_
          have BK171 := n2_
          have BK177 := n3_
          have HI165 := n4_
          have HB := n5_
          clear n0_ n1_ n2_ n3_ n4_ n5_
          refine start_ (n := 18) (S := fun w' => True) (ds := []) #[false, false, false, false, false, false, false, false, false, false, false, false, false, false, false, false, false, false] (by kernel_rfl) rfl rfl trivial (fun hHeld => ?_); refine with_tabW spec_DrawCoordMove.tab7 spec_DrawCoordMove.bits7 (fun HT_ HW_ => ?_)
          generalize wc.drew = w40 at BK161 BK162 BK171 BK177 HI165 HB hHeld ⊢
          refine pure_ (i := 2) (N := some 26) (v := ?_) (a' := ?_) #[false, false, true, false, false, false, false, false, false, false, false, false, false, false, false, false, false, false] rfl rfl (any_of HT_.out (by kernel_rfl)) (fun _ _ _ h => h) (Or.inl ⟨by rfl, ?_⟩) ?_ ?_
          rotate_left
          · intro w'
            go_simp
            with_reducible rfl
          rotate_left
          · simp only [Act.put, List.setIfInBounds_toArray, List.set_cons_zero, List.set_cons_succ, i64_w, i32_w]
            rfl
          refine pure_ (i := 4) (N := some 28) (v := ?_) (a' := ?_) #[false, false, true, false, true, false, false, false, false, false, false, false, false, false, false, false, false, false] rfl rfl (any_of HT_.out (by kernel_rfl)) (fun _ _ _ h => h) (Or.inl ⟨by rfl, ?_⟩) ?_ ?_
          rotate_left
          · intro w'
            go_simp
            with_reducible rfl
          rotate_left
          · simp only [Act.put, List.setIfInBounds_toArray, List.set_cons_zero, List.set_cons_succ, i64_w, i32_w]
            rfl
          refine pure_ (i := 7) (N := some 31) (v := ?_) (a' := ?_) #[false, false, true, false, true, false, false, true, false, false, false, false, false, false, false, false, false, false] rfl rfl (any_of HT_.out (by kernel_rfl)) (fun _ _ _ h => h) (Or.inl ⟨by rfl, ?_⟩) ?_ ?_
          rotate_left
          · intro w'
            go_simp
            with_reducible rfl
          rotate_left
          · simp only [Act.put, List.setIfInBounds_toArray, List.set_cons_zero, List.set_cons_succ, i64_w, i32_w]
            rfl
          refine pure_ (i := 11) (N := some 35) (v := ?_) (a' := ?_) #[false, false, true, false, true, false, false, true, false, false, false, true, false, false, false, false, false, false] rfl rfl (any_of HT_.out (by kernel_rfl)) (fun _ _ _ h => h) (Or.inl ⟨by rfl, ?_⟩) ?_ ?_
          rotate_left
          · intro w'
            go_simp
            with_reducible rfl
          rotate_left
          · simp only [Act.put, List.setIfInBounds_toArray, List.set_cons_zero, List.set_cons_succ, i64_w, i32_w]
            rfl
          refine inv_at [0, 1, 3, 5, 6, 8, 9, 10, 12, 13, 14, 15, 16, 17] (fun a0_ b a w' => ∃ (v185 : Value) (adz_v185 : Addr) (m9_ : Value), a = putSel a0_ b [(0, 24, .agg #[.int .i64 t166, .int .i64 t167, .int .i64 t168, .int .i64 t169]), (1, 25, .agg #[.int .i64 x178000_5, .int .i64 x178001_5, .int .i64 t174, .int .i64 t175]), (3, 27, .int .i64 t180), (5, 29, .int .i64 t182), (6, 30, v185), (8, 32, .int .i64 t187), (9, 33, m9_), (10, 34, .int .i64 (rd y184 t187)), (12, 36, .int .i64 t190), (13, 37, .int .i64 (wrap64 (t190 - 4))), (16, 4, .int .i64 (rd y184 t187)), (17, 5, .int .i64 (wrap64 (t190 - 4)))] ∧ (b 14 = false → w'.heap[gb161]? = some (.cells #[.int .i64 0, .int .i64 0, .int .i64 0, .int .i64 0] 25 (0, 0))) ∧ (b 15 = false → w'.heap[gb162]? = some (.cells #[.int .i64 0, .int .i64 0, .int .i64 0, .int .i64 0] 25 (0, 0))) ∧ (w'.heap[gb171]? = some (.cells #[.int .i64 t166, .int .i64 t167, .int .i64 t168, .int .i64 t169] 25 (0, 0))) ∧ (w'.heap[gb177]? = some (.cells #[.int .i64 x178000_5, .int .i64 x178001_5, .int .i64 t174, .int .i64 t175] 25 (0, 0))) ∧ (b 3 = false → IsS64 w w' g165 t163 t179) ∧ (Below w.heap.size w w') ∧ (b 3 = true → b 5 = false → IsS64 w w' g165 t163 t181) ∧ (b 5 = true → b 8 = false → IsS64 w w' g165 t163 t183) ∧ (b 6 = true → Kd.R (Kd.int .i64) 3 w' w.heap.size (fun _ => True) v185 y184) ∧ (b 6 = true → ∃ c_, (v185 : Value) = .slice (some adz_v185) y184.length c_) ∧ (b 8 = true → b 12 = false → IsS64 w w' g165 t163 t188) ∧ (b 12 = true → IsS64 w w' g165 t163 t191) ∧ (b 14 = true → w'.heap[gb161]? = some (.cells #[.int .i64 t166, .int .i64 t167, .int .i64 t168, .int .i64 t169] 25 (0, 0))) ∧ (b 15 = true → w'.heap[gb162]? = some (.cells #[.int .i64 x178000_5, .int .i64 x178001_5, .int .i64 t174, .int .i64 t175] 25 (0, 0))) ∧ (b 9 = true → (m9_ : Value) = .pointer (some (adz_v185.add (t187).toNat)))) HT_.out HW_.out (by kernel_rfl) (by kernel_rfl) ?_ ?_ ?_
          · exact ⟨.bool false, ⟨0, 0, none⟩, .bool false, by simp only [putSel, Bool.false_eq_true, if_false], fun _ => BK161.out, fun _ => BK162.out, BK171.out, BK177.out, fun _ => HI165.out, HB.out, fun h_ => absurd h_ (by decide), fun h_ => absurd h_ (by decide), fun h_ => absurd h_ (by decide), fun h_ => absurd h_ (by decide), fun h_ => absurd h_ (by decide), fun h_ => absurd h_ (by decide), fun h_ => absurd h_ (by decide), fun h_ => absurd h_ (by decide), fun h_ => absurd h_ (by decide)⟩
          · skip
            clear BK161 BK162 BK171 BK177 HB HI165
            refine steps_cons ?_ ?_
            · rintro b a w' ⟨v185, adz_v185, m9_, ha, Q_BK161, Q_BK162, Q_BK171, Q_BK177, Q_HI165, Q_HB, Q_HI165_e3, Q_HI165_e5, Q_HO186, Q_HA_HO186, Q_HI165_e8, Q_HI165_e12, Q_BK161_e14, Q_BK162_e15, Q_X9_⟩ hb_ hon hoff
              refine ⟨_, rfl, fun K hK => ?_⟩
              have e7 : a.tmps[7]? = some (.pointer (some ⟨gb171, 0, none⟩)) := by rw [ha]; exact (putSel_off rfl).trans rfl
              replace ha := Aside0.mk ha
              have BK161 := Aside0.mk (Q_BK161 (hoff 14 (by kernel_rfl)))
              have BK162 := Aside0.mk (Q_BK162 (hoff 15 (by kernel_rfl)))
              have BK171 := Aside0.mk Q_BK171
              have BK177 := Aside0.mk Q_BK177
              have HB := Aside0.mk Q_HB
              have hc0_ : w'.cell? ⟨gb171, 0, none⟩ = some (.int .i64 t166) := (blk_cell BK171.out 0).trans rfl
              have hc1_ : w'.cell? ⟨gb171, 1, none⟩ = some (.int .i64 t167) := (blk_cell BK171.out 1).trans rfl
              have hc2_ : w'.cell? ⟨gb171, 2, none⟩ = some (.int .i64 t168) := (blk_cell BK171.out 2).trans rfl
              have hc3_ : w'.cell? ⟨gb171, 3, none⟩ = some (.int .i64 t169) := (blk_cell BK171.out 3).trans rfl
              refine value_ (w1 := w') (v := .agg #[.int .i64 t166, .int .i64 t167, .int .i64 t168, .int .i64 t169]) (by rfl) rfl ?_ ?_
              · go_simp
                (try simp only [i64_w])
                try rfl
              refine hK.out _ _ ⟨v185, adz_v185, m9_, (by rw [ha.out]; exact putSel_upk 0 hb_ rfl rfl rfl), Q_BK161, Q_BK162, Q_BK171, Q_BK177, Q_HI165, Q_HB, Q_HI165_e3, Q_HI165_e5, Q_HO186, Q_HA_HO186, Q_HI165_e8, Q_HI165_e12, fun h0_ => absurd ((hoff 14 (by kernel_rfl)).symm.trans h0_) (by decide), fun h0_ => absurd ((hoff 15 (by kernel_rfl)).symm.trans h0_) (by decide), Q_X9_⟩
            refine steps_cons ?_ ?_
            · rintro b a w' ⟨v185, adz_v185, m9_, ha, Q_BK161, Q_BK162, Q_BK171, Q_BK177, Q_HI165, Q_HB, Q_HI165_e3, Q_HI165_e5, Q_HO186, Q_HA_HO186, Q_HI165_e8, Q_HI165_e12, Q_BK161_e14, Q_BK162_e15, Q_X9_⟩ hb_ hon hoff
              refine ⟨_, rfl, fun K hK => ?_⟩
              have e8 : a.tmps[8]? = some (.pointer (some ⟨gb177, 0, none⟩)) := by rw [ha]; exact (putSel_off rfl).trans rfl
              replace ha := Aside0.mk ha
              have BK162 := Aside0.mk (Q_BK162 (hoff 15 (by kernel_rfl)))
              have BK171 := Aside0.mk Q_BK171
              have BK177 := Aside0.mk Q_BK177
              have HB := Aside0.mk Q_HB
              have hc0_ : w'.cell? ⟨gb177, 0, none⟩ = some (.int .i64 x178000_5) := (blk_cell BK177.out 0).trans rfl
              have hc1_ : w'.cell? ⟨gb177, 1, none⟩ = some (.int .i64 x178001_5) := (blk_cell BK177.out 1).trans rfl
              have hc2_ : w'.cell? ⟨gb177, 2, none⟩ = some (.int .i64 t174) := (blk_cell BK177.out 2).trans rfl
              have hc3_ : w'.cell? ⟨gb177, 3, none⟩ = some (.int .i64 t175) := (blk_cell BK177.out 3).trans rfl
              refine value_ (w1 := w') (v := .agg #[.int .i64 x178000_5, .int .i64 x178001_5, .int .i64 t174, .int .i64 t175]) (by rfl) rfl ?_ ?_
              · go_simp
                (try simp only [i64_w])
                try rfl
              refine hK.out _ _ ⟨v185, adz_v185, m9_, (by rw [ha.out]; exact putSel_upk 1 hb_ rfl rfl rfl), Q_BK161, Q_BK162, Q_BK171, Q_BK177, Q_HI165, Q_HB, Q_HI165_e3, Q_HI165_e5, Q_HO186, Q_HA_HO186, Q_HI165_e8, Q_HI165_e12, Q_BK161_e14, fun h0_ => absurd ((hoff 15 (by kernel_rfl)).symm.trans h0_) (by decide), Q_X9_⟩
            refine steps_cons ?_ ?_
            · rintro b a w' ⟨v185, adz_v185, m9_, ha, Q_BK161, Q_BK162, Q_BK171, Q_BK177, Q_HI165, Q_HB, Q_HI165_e3, Q_HI165_e5, Q_HO186, Q_HA_HO186, Q_HI165_e8, Q_HI165_e12, Q_BK161_e14, Q_BK162_e15, Q_X9_⟩ hb_ hon hoff
              refine ⟨_, rfl, fun K hK => ?_⟩
              have e26 : a.tmps[26]? = some (.pointer (some ⟨g165, 0, none⟩)) := by rw [ha]; exact (putSel_off rfl).trans rfl
              replace ha := Aside0.mk ha
              have BK161 := Aside0.mk (Q_BK161 (hoff 14 (by kernel_rfl)))
              have BK162 := Aside0.mk (Q_BK162 (hoff 15 (by kernel_rfl)))
              have BK171 := Aside0.mk Q_BK171
              have BK177 := Aside0.mk Q_BK177
              have HI165 := Aside0.mk (Q_HI165 hb_)
              have HB := Aside0.mk Q_HB
              refine goes_ Try.func37 (by kernel_rfl) rfl #[.pointer (some ⟨g165, 0, none⟩), .int .i64 300] (by rfl) rfl rfl (by first | (simp only [List.map_toArray, List.map_cons, List.map_nil, Act.eval, Array.getD_eq_getD_getElem?, Option.getD_some, e26]; done) | (simp only [List.map_toArray, List.map_cons, List.map_nil, Act.eval, Array.getD_eq_getD_getElem?, Option.getD_some, e26]; rfl)) ?_
              with_reducible refine (spec_l1Rd_pick.calls kj5 g165 t163 t179 300 t180 t181 w _ ?side1 ?side2 A34.out).mono ?_
              (case side1 => repeat (first | (with_reducible first | exact HI165.out | apply IsS64.alloc | apply IsS64.drewN | apply IsS64.drew | apply IsS64.set_1 | refine IsS64.far ?_ NB165_161.out _ | refine IsS64.far ?_ NB165_162.out _ | refine IsS64.far ?_ NB165_171.out _ | refine IsS64.far ?_ NB165_177.out _) | exact HI165.out))
              (case side2 => repeat (first | (with_reducible first | exact HB.out | apply below_alloc | apply pw_below_drewN | apply below_drew1 | refine below_set ?_ (IsS64.ge HI165.out) | refine below_set ?_ GE161.out | refine below_set ?_ GE162.out | refine below_set ?_ GE171.out | refine below_set ?_ GE177.out) | exact HB.out))
              rintro e w41 ⟨rfl, hi, hb, hk⟩
              refine ⟨_, rfl, ?_⟩
              have n0_ := Aside0.mk (KeepBut.blk hk (g' := gb161) (o := .cells #[.int .i64 0, .int .i64 0, .int .i64 0, .int .i64 0] 25 (0, 0)) (by (with_reducible repeat (first | refine blk_drewN ?_ _ | refine blk_drew ?_ | refine blk_alloc ?_ _)); exact BK161.out) NB161_165.out (by simp))
              have n1_ := Aside0.mk (KeepBut.blk hk (g' := gb162) (o := .cells #[.int .i64 0, .int .i64 0, .int .i64 0, .int .i64 0] 25 (0, 0)) (by (with_reducible repeat (first | refine blk_drewN ?_ _ | refine blk_drew ?_ | refine blk_alloc ?_ _)); exact BK162.out) NB162_165.out (by simp))
              have n2_ := Aside0.mk (KeepBut.blk hk (g' := gb171) (o := .cells #[.int .i64 t166, .int .i64 t167, .int .i64 t168, .int .i64 t169] 25 (0, 0)) (by (with_reducible repeat (first | refine blk_drewN ?_ _ | refine blk_drew ?_ | refine blk_alloc ?_ _)); exact BK171.out) NB171_165.out (by simp))
              have n3_ := Aside0.mk (KeepBut.blk hk (g' := gb177) (o := .cells #[.int .i64 x178000_5, .int .i64 x178001_5, .int .i64 t174, .int .i64 t175] 25 (0, 0)) (by (with_reducible repeat (first | refine blk_drewN ?_ _ | refine blk_drew ?_ | refine blk_alloc ?_ _)); exact BK177.out) NB177_165.out (by simp))
              have n4_ := Aside0.mk (hb)
              have n5_ := Aside0.mk (hi)
              clear BK161
              clear BK162
              clear BK171
              clear BK177
              clear HB
              clear HI165
              have BK161 := n0_
              have BK162 := n1_
              have BK171 := n2_
              have BK177 := n3_
              have HB := n4_
              have HI165 := n5_
              clear n0_ n1_ n2_ n3_ n4_ n5_
              (try clear hb)
              (try clear hb2)
              (try clear hk)
              (try clear hi)
              (try clear A34)
              refine hK.out _ _ ⟨v185, adz_v185, m9_, (by rw [ha.out]; exact putSel_upk 2 hb_ rfl rfl rfl), fun _ => (by (with_reducible repeat (first | refine blk_drewN ?_ _ | refine blk_drew ?_ | refine blk_alloc ?_ _)); exact BK161.out), fun _ => (by (with_reducible repeat (first | refine blk_drewN ?_ _ | refine blk_drew ?_ | refine blk_alloc ?_ _)); exact BK162.out), (by (with_reducible repeat (first | refine blk_drewN ?_ _ | refine blk_drew ?_ | refine blk_alloc ?_ _)); exact BK171.out), (by (with_reducible repeat (first | refine blk_drewN ?_ _ | refine blk_drew ?_ | refine blk_alloc ?_ _)); exact BK177.out), fun h0_ => absurd ((up_self b 3).symm.trans h0_) (by decide), (by repeat (first | (with_reducible first | exact HB.out | apply below_alloc | apply pw_below_drewN | apply below_drew1 | refine below_set ?_ (IsS64.ge HI165.out) | refine below_set ?_ GE161.out | refine below_set ?_ GE162.out | refine below_set ?_ GE171.out | refine below_set ?_ GE177.out) | exact HB.out)), fun _ _ => (by repeat (first | (with_reducible first | exact HI165.out | apply IsS64.alloc | apply IsS64.drewN | apply IsS64.drew | apply IsS64.set_1 | refine IsS64.far ?_ NB165_161.out _ | refine IsS64.far ?_ NB165_162.out _ | refine IsS64.far ?_ NB165_171.out _ | refine IsS64.far ?_ NB165_177.out _) | exact HI165.out)), fun h0_ _ => absurd ((hoff 5 (by kernel_rfl)).symm.trans h0_) (by decide), fun h0_ => absurd ((hoff 6 (by kernel_rfl)).symm.trans h0_) (by decide), fun h0_ => absurd ((hoff 6 (by kernel_rfl)).symm.trans h0_) (by decide), fun h0_ _ => absurd ((hoff 8 (by kernel_rfl)).symm.trans h0_) (by decide), fun h0_ => absurd ((hoff 12 (by kernel_rfl)).symm.trans h0_) (by decide), fun h0_ => absurd ((hoff 14 (by kernel_rfl)).symm.trans h0_) (by decide), fun h0_ => absurd ((hoff 15 (by kernel_rfl)).symm.trans h0_) (by decide), fun h0_ => absurd ((hoff 9 (by kernel_rfl)).symm.trans h0_) (by decide)⟩
            refine steps_cons ?_ ?_
            · rintro b a w' ⟨v185, adz_v185, m9_, ha, Q_BK161, Q_BK162, Q_BK171, Q_BK177, Q_HI165, Q_HB, Q_HI165_e3, Q_HI165_e5, Q_HO186, Q_HA_HO186, Q_HI165_e8, Q_HI165_e12, Q_BK161_e14, Q_BK162_e15, Q_X9_⟩ hb_ hon hoff
              refine ⟨_, rfl, fun K hK => ?_⟩
              have e28 : a.tmps[28]? = some (.pointer (some ⟨g165, 0, none⟩)) := by rw [ha]; exact (putSel_off rfl).trans rfl
              replace ha := Aside0.mk ha
              have BK161 := Aside0.mk (Q_BK161 (hoff 14 (by kernel_rfl)))
              have BK162 := Aside0.mk (Q_BK162 (hoff 15 (by kernel_rfl)))
              have BK171 := Aside0.mk Q_BK171
              have BK177 := Aside0.mk Q_BK177
              have HB := Aside0.mk Q_HB
              have HI165 := Aside0.mk (Q_HI165_e3 (hon 3 (by kernel_rfl)) hb_)
              refine goes_ Try.func37 (by kernel_rfl) rfl #[.pointer (some ⟨g165, 0, none⟩), .int .i64 60000] (by rfl) rfl rfl (by first | (simp only [List.map_toArray, List.map_cons, List.map_nil, Act.eval, Array.getD_eq_getD_getElem?, Option.getD_some, e28]; done) | (simp only [List.map_toArray, List.map_cons, List.map_nil, Act.eval, Array.getD_eq_getD_getElem?, Option.getD_some, e28]; rfl)) ?_
              with_reducible refine (spec_l1Rd_pick.calls kj5 g165 t163 t181 60000 t182 t183 w _ ?side1 ?side2 A35.out).mono ?_
              (case side1 => repeat (first | (with_reducible first | exact HI165.out | apply IsS64.alloc | apply IsS64.drewN | apply IsS64.drew | apply IsS64.set_1 | refine IsS64.far ?_ NB165_161.out _ | refine IsS64.far ?_ NB165_162.out _ | refine IsS64.far ?_ NB165_171.out _ | refine IsS64.far ?_ NB165_177.out _) | exact HI165.out))
              (case side2 => repeat (first | (with_reducible first | exact HB.out | apply below_alloc | apply pw_below_drewN | apply below_drew1 | refine below_set ?_ (IsS64.ge HI165.out) | refine below_set ?_ GE161.out | refine below_set ?_ GE162.out | refine below_set ?_ GE171.out | refine below_set ?_ GE177.out) | exact HB.out))
              rintro e w43 ⟨rfl, hi, hb, hk⟩
              refine ⟨_, rfl, ?_⟩
              have n0_ := Aside0.mk (KeepBut.blk hk (g' := gb161) (o := .cells #[.int .i64 0, .int .i64 0, .int .i64 0, .int .i64 0] 25 (0, 0)) (by (with_reducible repeat (first | refine blk_drewN ?_ _ | refine blk_drew ?_ | refine blk_alloc ?_ _)); exact BK161.out) NB161_165.out (by simp))
              have n1_ := Aside0.mk (KeepBut.blk hk (g' := gb162) (o := .cells #[.int .i64 0, .int .i64 0, .int .i64 0, .int .i64 0] 25 (0, 0)) (by (with_reducible repeat (first | refine blk_drewN ?_ _ | refine blk_drew ?_ | refine blk_alloc ?_ _)); exact BK162.out) NB162_165.out (by simp))
              have n2_ := Aside0.mk (KeepBut.blk hk (g' := gb171) (o := .cells #[.int .i64 t166, .int .i64 t167, .int .i64 t168, .int .i64 t169] 25 (0, 0)) (by (with_reducible repeat (first | refine blk_drewN ?_ _ | refine blk_drew ?_ | refine blk_alloc ?_ _)); exact BK171.out) NB171_165.out (by simp))
              have n3_ := Aside0.mk (KeepBut.blk hk (g' := gb177) (o := .cells #[.int .i64 x178000_5, .int .i64 x178001_5, .int .i64 t174, .int .i64 t175] 25 (0, 0)) (by (with_reducible repeat (first | refine blk_drewN ?_ _ | refine blk_drew ?_ | refine blk_alloc ?_ _)); exact BK177.out) NB177_165.out (by simp))
              have n4_ := Aside0.mk (hb)
              have n5_ := Aside0.mk (hi)
              clear BK161
              clear BK162
              clear BK171
              clear BK177
              clear HB
              clear HI165
              have BK161 := n0_
              have BK162 := n1_
              have BK171 := n2_
              have BK177 := n3_
              have HB := n4_
              have HI165 := n5_
              clear n0_ n1_ n2_ n3_ n4_ n5_
              (try clear hb)
              (try clear hb2)
              (try clear hk)
              (try clear hi)
              (try clear A35)
              refine hK.out _ _ ⟨v185, adz_v185, m9_, (by rw [ha.out]; exact putSel_upk 3 hb_ rfl rfl rfl), fun _ => (by (with_reducible repeat (first | refine blk_drewN ?_ _ | refine blk_drew ?_ | refine blk_alloc ?_ _)); exact BK161.out), fun _ => (by (with_reducible repeat (first | refine blk_drewN ?_ _ | refine blk_drew ?_ | refine blk_alloc ?_ _)); exact BK162.out), (by (with_reducible repeat (first | refine blk_drewN ?_ _ | refine blk_drew ?_ | refine blk_alloc ?_ _)); exact BK171.out), (by (with_reducible repeat (first | refine blk_drewN ?_ _ | refine blk_drew ?_ | refine blk_alloc ?_ _)); exact BK177.out), fun h0_ => absurd ((hon 3 (by kernel_rfl)).symm.trans h0_) (by decide), (by repeat (first | (with_reducible first | exact HB.out | apply below_alloc | apply pw_below_drewN | apply below_drew1 | refine below_set ?_ (IsS64.ge HI165.out) | refine below_set ?_ GE161.out | refine below_set ?_ GE162.out | refine below_set ?_ GE171.out | refine below_set ?_ GE177.out) | exact HB.out)), fun _ h1_ => absurd ((up_self b 5).symm.trans h1_) (by decide), fun _ _ => (by repeat (first | (with_reducible first | exact HI165.out | apply IsS64.alloc | apply IsS64.drewN | apply IsS64.drew | apply IsS64.set_1 | refine IsS64.far ?_ NB165_161.out _ | refine IsS64.far ?_ NB165_162.out _ | refine IsS64.far ?_ NB165_171.out _ | refine IsS64.far ?_ NB165_177.out _) | exact HI165.out)), fun h0_ => absurd ((hoff 6 (by kernel_rfl)).symm.trans h0_) (by decide), fun h0_ => absurd ((hoff 6 (by kernel_rfl)).symm.trans h0_) (by decide), fun h0_ _ => absurd ((hoff 8 (by kernel_rfl)).symm.trans h0_) (by decide), fun h0_ => absurd ((hoff 12 (by kernel_rfl)).symm.trans h0_) (by decide), fun h0_ => absurd ((hoff 14 (by kernel_rfl)).symm.trans h0_) (by decide), fun h0_ => absurd ((hoff 15 (by kernel_rfl)).symm.trans h0_) (by decide), fun h0_ => absurd ((hoff 9 (by kernel_rfl)).symm.trans h0_) (by decide)⟩
            refine steps_cons ?_ ?_
            · rintro b a w' ⟨v185, adz_v185, m9_, ha, Q_BK161, Q_BK162, Q_BK171, Q_BK177, Q_HI165, Q_HB, Q_HI165_e3, Q_HI165_e5, Q_HO186, Q_HA_HO186, Q_HI165_e8, Q_HI165_e12, Q_BK161_e14, Q_BK162_e15, Q_X9_⟩ hb_ hon hoff
              refine ⟨_, rfl, fun K hK => ?_⟩
              have e27 : a.tmps[27]? = some (.int .i64 t180) := by rw [ha]; exact putSel_on (e := (3, 27, .int .i64 t180)) 2 rfl rfl (hon 3 (by kernel_rfl)) rfl
              have e29 : a.tmps[29]? = some (.int .i64 t182) := by rw [ha]; exact putSel_on (e := (5, 29, .int .i64 t182)) 3 rfl rfl (hon 5 (by kernel_rfl)) rfl
              replace ha := Aside0.mk ha
              have BK171 := Aside0.mk Q_BK171
              have BK177 := Aside0.mk Q_BK177
              have HB := Aside0.mk Q_HB
              refine Kd.R_lit_step (Kd.int .i64) _ 3 ?hg (N := 30) ?hd (xs := ([t180, t182, 0, (-1), 60000, 60001] : List Int)) (inner := [.int .i64 t180, .int .i64 t182, .int .i64 0, .int .i64 (-1), .int .i64 60000, .int .i64 60001]) (ok := fun _ => True) (okp := fun _ => True) ?hr ?hp (fun _ hk => hk) trivial (Below.refl _ _) (Nat.le_refl _) (by simp) ?_; (case hd => rfl); (case hg => rfl); (case hr => first | (go_simp; done) | (go_simp; rfl)); (case hp => exact (Reps.one (show Kd.M (Kd.int .i64) _ _ _ t180 [.int .i64 t180] from rfl) (Reps.one (show Kd.M (Kd.int .i64) _ _ _ t182 [.int .i64 t182] from rfl) (Reps.one (show Kd.M (Kd.int .i64) _ _ _ 0 [.int .i64 0] from rfl) (Reps.one (show Kd.M (Kd.int .i64) _ _ _ (-1) [.int .i64 (-1)] from rfl) (Reps.one (show Kd.M (Kd.int .i64) _ _ _ 60000 [.int .i64 60000] from rfl) (Reps.one (show Kd.M (Kd.int .i64) _ _ _ 60001 [.int .i64 60001] from rfl) (Reps.none _ _))))))))
              intro v185 w44 ho45 hb hg_ hnew_
              clear hg_ hnew_
              (first | rw [← Ny184.out] at ho45 | (simp only [Int.reduceToNat] at ho45; rw [← Ny184.out] at ho45))
              have n0_ := Aside0.mk (Kd.R_lower ho45 (below_size (by repeat (first | (with_reducible first | exact HB.out | apply below_alloc | apply pw_below_drewN | apply below_drew1 | refine below_set ?_ GE161.out | refine below_set ?_ GE162.out | refine below_set ?_ GE171.out | refine below_set ?_ GE177.out) | exact HB.out))))
              have n3_ := Aside0.mk (blk_below (g := gb171) (o := .cells #[.int .i64 t166, .int .i64 t167, .int .i64 t168, .int .i64 t169] 25 (0, 0)) (by (with_reducible repeat (first | refine blk_drewN ?_ _ | refine blk_drew ?_ | refine blk_alloc ?_ _)); exact BK171.out) hb)
              have n4_ := Aside0.mk (blk_below (g := gb177) (o := .cells #[.int .i64 x178000_5, .int .i64 x178001_5, .int .i64 t174, .int .i64 t175] 25 (0, 0)) (by (with_reducible repeat (first | refine blk_drewN ?_ _ | refine blk_drew ?_ | refine blk_alloc ?_ _)); exact BK177.out) hb)
              have n6_ := Aside0.mk (below_step (by repeat (first | (with_reducible first | exact HB.out | apply below_alloc | apply pw_below_drewN | apply below_drew1 | refine below_set ?_ GE161.out | refine below_set ?_ GE162.out | refine below_set ?_ GE171.out | refine below_set ?_ GE177.out) | exact HB.out)) hb)
              have z_BK161 := fun (h0_ : b 14 = false) => (show w44.heap[gb161]? = some (.cells #[.int .i64 0, .int .i64 0, .int .i64 0, .int .i64 0] 25 (0, 0)) from by first | exact (blk_below (g := gb161) (o := .cells #[.int .i64 0, .int .i64 0, .int .i64 0, .int .i64 0] 25 (0, 0)) (by (with_reducible repeat (first | refine blk_drewN ?_ _ | refine blk_drew ?_ | refine blk_alloc ?_ _)); exact (Q_BK161 h0_)) hb))
              have z_BK162 := fun (h0_ : b 15 = false) => (show w44.heap[gb162]? = some (.cells #[.int .i64 0, .int .i64 0, .int .i64 0, .int .i64 0] 25 (0, 0)) from by first | exact (blk_below (g := gb162) (o := .cells #[.int .i64 0, .int .i64 0, .int .i64 0, .int .i64 0] 25 (0, 0)) (by (with_reducible repeat (first | refine blk_drewN ?_ _ | refine blk_drew ?_ | refine blk_alloc ?_ _)); exact (Q_BK162 h0_)) hb))
              have z_HI165_e5 := fun (h0_ : b 5 = true) (h1_ : b 8 = false) => (show IsS64 w w44 g165 t163 t183 from by first | exact (IsS64.below (by repeat (first | (with_reducible first | exact (Q_HI165_e5 h0_ h1_) | apply IsS64.alloc | apply IsS64.drewN | apply IsS64.drew | apply IsS64.set_1 | refine IsS64.far ?_ NB165_161.out _ | refine IsS64.far ?_ NB165_162.out _ | refine IsS64.far ?_ NB165_171.out _ | refine IsS64.far ?_ NB165_177.out _) | exact (Q_HI165_e5 h0_ h1_))) hb))
              have z_HI165_e8 := fun (h0_ : b 8 = true) (h1_ : b 12 = false) => (show IsS64 w w44 g165 t163 t188 from by first | exact (IsS64.below (by repeat (first | (with_reducible first | exact (Q_HI165_e8 h0_ h1_) | apply IsS64.alloc | apply IsS64.drewN | apply IsS64.drew | apply IsS64.set_1 | refine IsS64.far ?_ NB165_161.out _ | refine IsS64.far ?_ NB165_162.out _ | refine IsS64.far ?_ NB165_171.out _ | refine IsS64.far ?_ NB165_177.out _) | exact (Q_HI165_e8 h0_ h1_))) hb))
              have z_HI165_e12 := fun (h0_ : b 12 = true) => (show IsS64 w w44 g165 t163 t191 from by first | exact (IsS64.below (by repeat (first | (with_reducible first | exact (Q_HI165_e12 h0_) | apply IsS64.alloc | apply IsS64.drewN | apply IsS64.drew | apply IsS64.set_1 | refine IsS64.far ?_ NB165_161.out _ | refine IsS64.far ?_ NB165_162.out _ | refine IsS64.far ?_ NB165_171.out _ | refine IsS64.far ?_ NB165_177.out _) | exact (Q_HI165_e12 h0_))) hb))
              have z_BK161_e14 := fun (h0_ : b 14 = true) => (show w44.heap[gb161]? = some (.cells #[.int .i64 t166, .int .i64 t167, .int .i64 t168, .int .i64 t169] 25 (0, 0)) from by first | exact (blk_below (g := gb161) (o := .cells #[.int .i64 t166, .int .i64 t167, .int .i64 t168, .int .i64 t169] 25 (0, 0)) (by (with_reducible repeat (first | refine blk_drewN ?_ _ | refine blk_drew ?_ | refine blk_alloc ?_ _)); exact (Q_BK161_e14 h0_)) hb))
              have z_BK162_e15 := fun (h0_ : b 15 = true) => (show w44.heap[gb162]? = some (.cells #[.int .i64 x178000_5, .int .i64 x178001_5, .int .i64 t174, .int .i64 t175] 25 (0, 0)) from by first | exact (blk_below (g := gb162) (o := .cells #[.int .i64 x178000_5, .int .i64 x178001_5, .int .i64 t174, .int .i64 t175] 25 (0, 0)) (by (with_reducible repeat (first | refine blk_drewN ?_ _ | refine blk_drew ?_ | refine blk_alloc ?_ _)); exact (Q_BK162_e15 h0_)) hb))
              clear BK171
              clear BK177
              clear HB
              have HO186 := n0_
              have BK171 := n3_
              have BK177 := n4_
              have HB := n6_
              clear n0_ n3_ n4_ n6_
              clear hb ho45
              obtain ⟨Ao46, co46, eo46⟩ := Kd.R_slice HO186.out
              subst eo46
              obtain ⟨ado46, fo46, _⟩ := Kd.at_int (Kd.R_reads' HO186.out).2.2 0 (by decide) (by rw [Ny184.out]; simp)
              cases fo46
              refine hK.out _ _ ⟨.slice (some ado46) y184.length co46, ado46, m9_, (by rw [ha.out]; exact putSel_upk 4 hb_ rfl rfl rfl), z_BK161, z_BK162, (by (with_reducible repeat (first | refine blk_drewN ?_ _ | refine blk_drew ?_ | refine blk_alloc ?_ _)); exact BK171.out), (by (with_reducible repeat (first | refine blk_drewN ?_ _ | refine blk_drew ?_ | refine blk_alloc ?_ _)); exact BK177.out), fun h0_ => absurd ((hon 3 (by kernel_rfl)).symm.trans h0_) (by decide), (by repeat (first | (with_reducible first | exact HB.out | apply below_alloc | apply pw_below_drewN | apply below_drew1 | refine below_set ?_ GE161.out | refine below_set ?_ GE162.out | refine below_set ?_ GE171.out | refine below_set ?_ GE177.out) | exact HB.out)), fun _ h1_ => absurd ((hon 5 (by kernel_rfl)).symm.trans h1_) (by decide), z_HI165_e5, fun _ => (by (with_reducible repeat (first | apply Kd.R_alloc | apply Kd.R_drewN | apply Kd.R_drew)); exact HO186.out), fun _ => ⟨_, rfl⟩, z_HI165_e8, z_HI165_e12, z_BK161_e14, z_BK162_e15, fun h0_ => absurd ((hoff 9 (by kernel_rfl)).symm.trans h0_) (by decide)⟩
            refine steps_cons ?_ ?_
            · rintro b a w' ⟨v185, adz_v185, m9_, ha, Q_BK161, Q_BK162, Q_BK171, Q_BK177, Q_HI165, Q_HB, Q_HI165_e3, Q_HI165_e5, Q_HO186, Q_HA_HO186, Q_HI165_e8, Q_HI165_e12, Q_BK161_e14, Q_BK162_e15, Q_X9_⟩ hb_ hon hoff
              refine ⟨_, rfl, fun K hK => ?_⟩
              have e31 : a.tmps[31]? = some (.pointer (some ⟨g165, 0, none⟩)) := by rw [ha]; exact (putSel_off rfl).trans rfl
              replace ha := Aside0.mk ha
              have BK161 := Aside0.mk (Q_BK161 (hoff 14 (by kernel_rfl)))
              have BK162 := Aside0.mk (Q_BK162 (hoff 15 (by kernel_rfl)))
              have BK171 := Aside0.mk Q_BK171
              have BK177 := Aside0.mk Q_BK177
              have HB := Aside0.mk Q_HB
              have HI165 := Aside0.mk (Q_HI165_e5 (hon 5 (by kernel_rfl)) hb_)
              refine goes_ Try.func37 (by kernel_rfl) rfl #[.pointer (some ⟨g165, 0, none⟩), .int .i64 6] (by rfl) rfl rfl (by first | (simp only [List.map_toArray, List.map_cons, List.map_nil, Act.eval, Array.getD_eq_getD_getElem?, Option.getD_some, e31]; done) | (simp only [List.map_toArray, List.map_cons, List.map_nil, Act.eval, Array.getD_eq_getD_getElem?, Option.getD_some, e31]; rfl)) ?_
              with_reducible refine (spec_l1Rd_pick.calls kj5 g165 t163 t183 6 t187 t188 w _ ?side1 ?side2 A36.out).mono ?_
              (case side1 => repeat (first | (with_reducible first | exact HI165.out | apply IsS64.alloc | apply IsS64.drewN | apply IsS64.drew | apply IsS64.set_1 | refine IsS64.far ?_ NB165_161.out _ | refine IsS64.far ?_ NB165_162.out _ | refine IsS64.far ?_ NB165_171.out _ | refine IsS64.far ?_ NB165_177.out _) | exact HI165.out))
              (case side2 => repeat (first | (with_reducible first | exact HB.out | apply below_alloc | apply pw_below_drewN | apply below_drew1 | refine below_set ?_ (IsS64.ge HI165.out) | refine below_set ?_ GE161.out | refine below_set ?_ GE162.out | refine below_set ?_ GE171.out | refine below_set ?_ GE177.out) | exact HB.out))
              rintro e w44 ⟨rfl, hi, hb, hk⟩
              refine ⟨_, rfl, ?_⟩
              have n0_ := Aside0.mk (KeepBut.blk hk (g' := gb161) (o := .cells #[.int .i64 0, .int .i64 0, .int .i64 0, .int .i64 0] 25 (0, 0)) (by (with_reducible repeat (first | refine blk_drewN ?_ _ | refine blk_drew ?_ | refine blk_alloc ?_ _)); exact BK161.out) NB161_165.out (by simp))
              have n1_ := Aside0.mk (KeepBut.blk hk (g' := gb162) (o := .cells #[.int .i64 0, .int .i64 0, .int .i64 0, .int .i64 0] 25 (0, 0)) (by (with_reducible repeat (first | refine blk_drewN ?_ _ | refine blk_drew ?_ | refine blk_alloc ?_ _)); exact BK162.out) NB162_165.out (by simp))
              have n2_ := Aside0.mk (KeepBut.blk hk (g' := gb171) (o := .cells #[.int .i64 t166, .int .i64 t167, .int .i64 t168, .int .i64 t169] 25 (0, 0)) (by (with_reducible repeat (first | refine blk_drewN ?_ _ | refine blk_drew ?_ | refine blk_alloc ?_ _)); exact BK171.out) NB171_165.out (by simp))
              have n3_ := Aside0.mk (KeepBut.blk hk (g' := gb177) (o := .cells #[.int .i64 x178000_5, .int .i64 x178001_5, .int .i64 t174, .int .i64 t175] 25 (0, 0)) (by (with_reducible repeat (first | refine blk_drewN ?_ _ | refine blk_drew ?_ | refine blk_alloc ?_ _)); exact BK177.out) NB177_165.out (by simp))
              have n4_ := Aside0.mk (hb)
              have n5_ := Aside0.mk (hi)
              have z_HO186 := fun (h0_ : b 6 = true) => (show Kd.R (Kd.int .i64) 3 w44 w.heap.size (fun _ => True) v185 y184 from by first | exact (Kd.R_mono (Kd.R_keep (IsS64.apart (show IsS64 w _ g165 t163 t183 from by repeat (first | (with_reducible first | exact HI165.out | apply IsS64.alloc | apply IsS64.drewN | apply IsS64.drew | apply IsS64.set_1 | refine IsS64.far ?_ NB165_161.out _ | refine IsS64.far ?_ NB165_162.out _ | refine IsS64.far ?_ NB165_171.out _ | refine IsS64.far ?_ NB165_177.out _) | exact HI165.out)) (by (with_reducible repeat (first | apply Kd.R_alloc | apply Kd.R_drewN | apply Kd.R_drew)); exact (Q_HO186 h0_)) (by decide)) hk (fun _ h => h.2)) (fun _ h => h.1)) | exact Kd.R_mono (Kd.R_mono (Kd.R_keep (IsS64.apart (show IsS64 w _ g165 t163 t183 from by repeat (first | (with_reducible first | exact HI165.out | apply IsS64.alloc | apply IsS64.drewN | apply IsS64.drew | apply IsS64.set_1 | refine IsS64.far ?_ NB165_161.out _ | refine IsS64.far ?_ NB165_162.out _ | refine IsS64.far ?_ NB165_171.out _ | refine IsS64.far ?_ NB165_177.out _) | exact HI165.out)) (by (with_reducible repeat (first | apply Kd.R_alloc | apply Kd.R_drewN | apply Kd.R_drew)); exact (Q_HO186 h0_)) (by decide)) hk (fun _ h => h.2)) (fun _ h => h.1)) (fun _ h_ => by first | trivial | exact h_ | exact h_.1))
              clear BK161
              clear BK162
              clear BK171
              clear BK177
              clear HB
              clear HI165
              have BK161 := n0_
              have BK162 := n1_
              have BK171 := n2_
              have BK177 := n3_
              have HB := n4_
              have HI165 := n5_
              clear n0_ n1_ n2_ n3_ n4_ n5_
              (try clear hb)
              (try clear hb2)
              (try clear hk)
              (try clear hi)
              (try clear A36)
              refine hK.out _ _ ⟨v185, adz_v185, m9_, (by rw [ha.out]; exact putSel_upk 5 hb_ rfl rfl rfl), fun _ => (by (with_reducible repeat (first | refine blk_drewN ?_ _ | refine blk_drew ?_ | refine blk_alloc ?_ _)); exact BK161.out), fun _ => (by (with_reducible repeat (first | refine blk_drewN ?_ _ | refine blk_drew ?_ | refine blk_alloc ?_ _)); exact BK162.out), (by (with_reducible repeat (first | refine blk_drewN ?_ _ | refine blk_drew ?_ | refine blk_alloc ?_ _)); exact BK171.out), (by (with_reducible repeat (first | refine blk_drewN ?_ _ | refine blk_drew ?_ | refine blk_alloc ?_ _)); exact BK177.out), fun h0_ => absurd ((hon 3 (by kernel_rfl)).symm.trans h0_) (by decide), (by repeat (first | (with_reducible first | exact HB.out | apply below_alloc | apply pw_below_drewN | apply below_drew1 | refine below_set ?_ (IsS64.ge HI165.out) | refine below_set ?_ GE161.out | refine below_set ?_ GE162.out | refine below_set ?_ GE171.out | refine below_set ?_ GE177.out) | exact HB.out)), fun _ h1_ => absurd ((hon 5 (by kernel_rfl)).symm.trans h1_) (by decide), fun _ h1_ => absurd ((up_self b 8).symm.trans h1_) (by decide), z_HO186, Q_HA_HO186, fun _ _ => (by repeat (first | (with_reducible first | exact HI165.out | apply IsS64.alloc | apply IsS64.drewN | apply IsS64.drew | apply IsS64.set_1 | refine IsS64.far ?_ NB165_161.out _ | refine IsS64.far ?_ NB165_162.out _ | refine IsS64.far ?_ NB165_171.out _ | refine IsS64.far ?_ NB165_177.out _) | exact HI165.out)), fun h0_ => absurd ((hoff 12 (by kernel_rfl)).symm.trans h0_) (by decide), fun h0_ => absurd ((hoff 14 (by kernel_rfl)).symm.trans h0_) (by decide), fun h0_ => absurd ((hoff 15 (by kernel_rfl)).symm.trans h0_) (by decide), fun h0_ => absurd ((hoff 9 (by kernel_rfl)).symm.trans h0_) (by decide)⟩
            refine steps_cons ?_ ?_
            · rintro b a w' ⟨v185, adz_v185, m9_, ha, Q_BK161, Q_BK162, Q_BK171, Q_BK177, Q_HI165, Q_HB, Q_HI165_e3, Q_HI165_e5, Q_HO186, Q_HA_HO186, Q_HI165_e8, Q_HI165_e12, Q_BK161_e14, Q_BK162_e15, Q_X9_⟩ hb_ hon hoff
              refine ⟨_, rfl, fun K hK => ?_⟩
              have e30 : a.tmps[30]? = some (v185) := by rw [ha]; exact putSel_on (e := (6, 30, v185)) 4 rfl rfl (hon 6 (by kernel_rfl)) rfl
              have e32 : a.tmps[32]? = some (.int .i64 t187) := by rw [ha]; exact putSel_on (e := (8, 32, .int .i64 t187)) 5 rfl rfl (hon 8 (by kernel_rfl)) rfl
              replace ha := Aside0.mk ha
              have BK171 := Aside0.mk Q_BK171
              have BK177 := Aside0.mk Q_BK177
              have HB := Aside0.mk Q_HB
              have HO186 := Aside0.mk (Q_HO186 (hon 6 (by kernel_rfl)))
              have HA_HO186 := Aside0.mk (Q_HA_HO186 (hon 6 (by kernel_rfl)))
              obtain ⟨c_, hv_⟩ := HA_HO186.out
              rw [hv_] at e30
              refine value_ (w1 := w') (v := .pointer (some (adz_v185.add (t187).toNat))) (by rfl) rfl ?_ ?_
              · go_simp
                (try simp only [i64_w])
                try rfl
              refine hK.out _ _ ⟨v185, adz_v185, (.pointer (some (adz_v185.add (t187).toNat))), (by rw [ha.out]; exact putSel_upk 6 hb_ rfl rfl rfl), Q_BK161, Q_BK162, Q_BK171, Q_BK177, fun h0_ => absurd ((hon 3 (by kernel_rfl)).symm.trans h0_) (by decide), Q_HB, fun _ h1_ => absurd ((hon 5 (by kernel_rfl)).symm.trans h1_) (by decide), fun _ h1_ => absurd ((hon 8 (by kernel_rfl)).symm.trans h1_) (by decide), Q_HO186, Q_HA_HO186, Q_HI165_e8, Q_HI165_e12, Q_BK161_e14, Q_BK162_e15, fun _ => rfl⟩
            refine steps_cons ?_ ?_
            · rintro b a w' ⟨v185, adz_v185, m9_, ha, Q_BK161, Q_BK162, Q_BK171, Q_BK177, Q_HI165, Q_HB, Q_HI165_e3, Q_HI165_e5, Q_HO186, Q_HA_HO186, Q_HI165_e8, Q_HI165_e12, Q_BK161_e14, Q_BK162_e15, Q_X9_⟩ hb_ hon hoff
              refine ⟨_, rfl, fun K hK => ?_⟩
              have e33 : a.tmps[33]? = some (m9_) := by rw [ha]; exact putSel_on (e := (9, 33, m9_)) 6 rfl rfl (hon 9 (by kernel_rfl)) rfl
              rw [Q_X9_ (hon 9 (by kernel_rfl))] at e33
              replace ha := Aside0.mk ha
              have BK171 := Aside0.mk Q_BK171
              have BK177 := Aside0.mk Q_BK177
              have HB := Aside0.mk Q_HB
              have HO186 := Aside0.mk (Q_HO186 (hon 6 (by kernel_rfl)))
              have HA_HO186 := Aside0.mk (Q_HA_HO186 (hon 6 (by kernel_rfl)))
              obtain ⟨c_, hv_⟩ := HA_HO186.out
              have hF_ := HO186.out
              rw [hv_] at hF_
              obtain ⟨ad_, ea_, hx_⟩ := Kd.at_int (Kd.R_reads' hF_).2.2 t187 (of_eq_true pi189) (of_eq_true qi189)
              cases ea_
              refine value_ (w1 := w') (v := .int .i64 (rd y184 t187)) (by rfl) rfl ?_ ?_
              · go_simp
                (try simp only [i64_w])
                try rfl
              refine hK.out _ _ ⟨v185, adz_v185, m9_, (by rw [ha.out]; exact putSel_upk 7 hb_ rfl rfl rfl), Q_BK161, Q_BK162, Q_BK171, Q_BK177, fun h0_ => absurd ((hon 3 (by kernel_rfl)).symm.trans h0_) (by decide), Q_HB, fun _ h1_ => absurd ((hon 5 (by kernel_rfl)).symm.trans h1_) (by decide), fun _ h1_ => absurd ((hon 8 (by kernel_rfl)).symm.trans h1_) (by decide), Q_HO186, Q_HA_HO186, Q_HI165_e8, Q_HI165_e12, Q_BK161_e14, Q_BK162_e15, Q_X9_⟩
            refine steps_cons ?_ ?_
            · rintro b a w' ⟨v185, adz_v185, m9_, ha, Q_BK161, Q_BK162, Q_BK171, Q_BK177, Q_HI165, Q_HB, Q_HI165_e3, Q_HI165_e5, Q_HO186, Q_HA_HO186, Q_HI165_e8, Q_HI165_e12, Q_BK161_e14, Q_BK162_e15, Q_X9_⟩ hb_ hon hoff
              refine ⟨_, rfl, fun K hK => ?_⟩
              have e35 : a.tmps[35]? = some (.pointer (some ⟨g165, 0, none⟩)) := by rw [ha]; exact (putSel_off rfl).trans rfl
              replace ha := Aside0.mk ha
              have BK161 := Aside0.mk (Q_BK161 (hoff 14 (by kernel_rfl)))
              have BK162 := Aside0.mk (Q_BK162 (hoff 15 (by kernel_rfl)))
              have BK171 := Aside0.mk Q_BK171
              have BK177 := Aside0.mk Q_BK177
              have HB := Aside0.mk Q_HB
              have HI165 := Aside0.mk (Q_HI165_e8 (hon 8 (by kernel_rfl)) hb_)
              refine goes_ Try.func37 (by kernel_rfl) rfl #[.pointer (some ⟨g165, 0, none⟩), .int .i64 9] (by rfl) rfl rfl (by first | (simp only [List.map_toArray, List.map_cons, List.map_nil, Act.eval, Array.getD_eq_getD_getElem?, Option.getD_some, e35]; done) | (simp only [List.map_toArray, List.map_cons, List.map_nil, Act.eval, Array.getD_eq_getD_getElem?, Option.getD_some, e35]; rfl)) ?_
              with_reducible refine (spec_l1Rd_pick.calls kj5 g165 t163 t188 9 t190 t191 w _ ?side1 ?side2 A39.out).mono ?_
              (case side1 => repeat (first | (with_reducible first | exact HI165.out | apply IsS64.alloc | apply IsS64.drewN | apply IsS64.drew | apply IsS64.set_1 | refine IsS64.far ?_ NB165_161.out _ | refine IsS64.far ?_ NB165_162.out _ | refine IsS64.far ?_ NB165_171.out _ | refine IsS64.far ?_ NB165_177.out _) | exact HI165.out))
              (case side2 => repeat (first | (with_reducible first | exact HB.out | apply below_alloc | apply pw_below_drewN | apply below_drew1 | refine below_set ?_ (IsS64.ge HI165.out) | refine below_set ?_ GE161.out | refine below_set ?_ GE162.out | refine below_set ?_ GE171.out | refine below_set ?_ GE177.out) | exact HB.out))
              rintro e w45 ⟨rfl, hi, hb, hk⟩
              refine ⟨_, rfl, ?_⟩
              have n0_ := Aside0.mk (KeepBut.blk hk (g' := gb161) (o := .cells #[.int .i64 0, .int .i64 0, .int .i64 0, .int .i64 0] 25 (0, 0)) (by (with_reducible repeat (first | refine blk_drewN ?_ _ | refine blk_drew ?_ | refine blk_alloc ?_ _)); exact BK161.out) NB161_165.out (by simp))
              have n1_ := Aside0.mk (KeepBut.blk hk (g' := gb162) (o := .cells #[.int .i64 0, .int .i64 0, .int .i64 0, .int .i64 0] 25 (0, 0)) (by (with_reducible repeat (first | refine blk_drewN ?_ _ | refine blk_drew ?_ | refine blk_alloc ?_ _)); exact BK162.out) NB162_165.out (by simp))
              have n2_ := Aside0.mk (KeepBut.blk hk (g' := gb171) (o := .cells #[.int .i64 t166, .int .i64 t167, .int .i64 t168, .int .i64 t169] 25 (0, 0)) (by (with_reducible repeat (first | refine blk_drewN ?_ _ | refine blk_drew ?_ | refine blk_alloc ?_ _)); exact BK171.out) NB171_165.out (by simp))
              have n3_ := Aside0.mk (KeepBut.blk hk (g' := gb177) (o := .cells #[.int .i64 x178000_5, .int .i64 x178001_5, .int .i64 t174, .int .i64 t175] 25 (0, 0)) (by (with_reducible repeat (first | refine blk_drewN ?_ _ | refine blk_drew ?_ | refine blk_alloc ?_ _)); exact BK177.out) NB177_165.out (by simp))
              have n4_ := Aside0.mk (hb)
              have n5_ := Aside0.mk (hi)
              have z_HO186 := fun (h0_ : b 6 = true) => (show Kd.R (Kd.int .i64) 3 w45 w.heap.size (fun _ => True) v185 y184 from by first | exact (Kd.R_mono (Kd.R_keep (IsS64.apart (show IsS64 w _ g165 t163 t188 from by repeat (first | (with_reducible first | exact HI165.out | apply IsS64.alloc | apply IsS64.drewN | apply IsS64.drew | apply IsS64.set_1 | refine IsS64.far ?_ NB165_161.out _ | refine IsS64.far ?_ NB165_162.out _ | refine IsS64.far ?_ NB165_171.out _ | refine IsS64.far ?_ NB165_177.out _) | exact HI165.out)) (by (with_reducible repeat (first | apply Kd.R_alloc | apply Kd.R_drewN | apply Kd.R_drew)); exact (Q_HO186 h0_)) (by decide)) hk (fun _ h => h.2)) (fun _ h => h.1)) | exact Kd.R_mono (Kd.R_mono (Kd.R_keep (IsS64.apart (show IsS64 w _ g165 t163 t188 from by repeat (first | (with_reducible first | exact HI165.out | apply IsS64.alloc | apply IsS64.drewN | apply IsS64.drew | apply IsS64.set_1 | refine IsS64.far ?_ NB165_161.out _ | refine IsS64.far ?_ NB165_162.out _ | refine IsS64.far ?_ NB165_171.out _ | refine IsS64.far ?_ NB165_177.out _) | exact HI165.out)) (by (with_reducible repeat (first | apply Kd.R_alloc | apply Kd.R_drewN | apply Kd.R_drew)); exact (Q_HO186 h0_)) (by decide)) hk (fun _ h => h.2)) (fun _ h => h.1)) (fun _ h_ => by first | trivial | exact h_ | exact h_.1))
              clear BK161
              clear BK162
              clear BK171
              clear BK177
              clear HB
              clear HI165
              have BK161 := n0_
              have BK162 := n1_
              have BK171 := n2_
              have BK177 := n3_
              have HB := n4_
              have HI165 := n5_
              clear n0_ n1_ n2_ n3_ n4_ n5_
              (try clear hb)
              (try clear hb2)
              (try clear hk)
              (try clear hi)
              (try clear A39)
              refine hK.out _ _ ⟨v185, adz_v185, m9_, (by rw [ha.out]; exact putSel_upk 8 hb_ rfl rfl rfl), fun _ => (by (with_reducible repeat (first | refine blk_drewN ?_ _ | refine blk_drew ?_ | refine blk_alloc ?_ _)); exact BK161.out), fun _ => (by (with_reducible repeat (first | refine blk_drewN ?_ _ | refine blk_drew ?_ | refine blk_alloc ?_ _)); exact BK162.out), (by (with_reducible repeat (first | refine blk_drewN ?_ _ | refine blk_drew ?_ | refine blk_alloc ?_ _)); exact BK171.out), (by (with_reducible repeat (first | refine blk_drewN ?_ _ | refine blk_drew ?_ | refine blk_alloc ?_ _)); exact BK177.out), fun h0_ => absurd ((hon 3 (by kernel_rfl)).symm.trans h0_) (by decide), (by repeat (first | (with_reducible first | exact HB.out | apply below_alloc | apply pw_below_drewN | apply below_drew1 | refine below_set ?_ (IsS64.ge HI165.out) | refine below_set ?_ GE161.out | refine below_set ?_ GE162.out | refine below_set ?_ GE171.out | refine below_set ?_ GE177.out) | exact HB.out)), fun _ h1_ => absurd ((hon 5 (by kernel_rfl)).symm.trans h1_) (by decide), fun _ h1_ => absurd ((hon 8 (by kernel_rfl)).symm.trans h1_) (by decide), z_HO186, Q_HA_HO186, fun _ h1_ => absurd ((up_self b 12).symm.trans h1_) (by decide), fun _ => (by repeat (first | (with_reducible first | exact HI165.out | apply IsS64.alloc | apply IsS64.drewN | apply IsS64.drew | apply IsS64.set_1 | refine IsS64.far ?_ NB165_161.out _ | refine IsS64.far ?_ NB165_162.out _ | refine IsS64.far ?_ NB165_171.out _ | refine IsS64.far ?_ NB165_177.out _) | exact HI165.out)), fun h0_ => absurd ((hoff 14 (by kernel_rfl)).symm.trans h0_) (by decide), fun h0_ => absurd ((hoff 15 (by kernel_rfl)).symm.trans h0_) (by decide), Q_X9_⟩
            refine steps_cons ?_ ?_
            · rintro b a w' ⟨v185, adz_v185, m9_, ha, Q_BK161, Q_BK162, Q_BK171, Q_BK177, Q_HI165, Q_HB, Q_HI165_e3, Q_HI165_e5, Q_HO186, Q_HA_HO186, Q_HI165_e8, Q_HI165_e12, Q_BK161_e14, Q_BK162_e15, Q_X9_⟩ hb_ hon hoff
              refine ⟨_, rfl, fun K hK => ?_⟩
              have e36 : a.tmps[36]? = some (.int .i64 t190) := by rw [ha]; exact putSel_on (e := (12, 36, .int .i64 t190)) 8 rfl rfl (hon 12 (by kernel_rfl)) rfl
              replace ha := Aside0.mk ha
              have BK171 := Aside0.mk Q_BK171
              have BK177 := Aside0.mk Q_BK177
              have HB := Aside0.mk Q_HB
              have HI165 := Aside0.mk (Q_HI165_e12 (hon 12 (by kernel_rfl)))
              refine value_ (w1 := w') (v := .int .i64 (wrap64 (t190 - 4))) (by rfl) rfl ?_ ?_
              · go_simp
                (try simp only [i64_w])
                try rfl
              refine hK.out _ _ ⟨v185, adz_v185, m9_, (by rw [ha.out]; exact putSel_upk 9 hb_ rfl rfl rfl), Q_BK161, Q_BK162, Q_BK171, Q_BK177, fun h0_ => absurd ((hon 3 (by kernel_rfl)).symm.trans h0_) (by decide), Q_HB, fun _ h1_ => absurd ((hon 5 (by kernel_rfl)).symm.trans h1_) (by decide), fun _ h1_ => absurd ((hon 8 (by kernel_rfl)).symm.trans h1_) (by decide), Q_HO186, Q_HA_HO186, fun _ h1_ => absurd ((hon 12 (by kernel_rfl)).symm.trans h1_) (by decide), Q_HI165_e12, Q_BK161_e14, Q_BK162_e15, Q_X9_⟩
            refine steps_cons ?_ ?_
            · rintro b a w' ⟨v185, adz_v185, m9_, ha, Q_BK161, Q_BK162, Q_BK171, Q_BK177, Q_HI165, Q_HB, Q_HI165_e3, Q_HI165_e5, Q_HO186, Q_HA_HO186, Q_HI165_e8, Q_HI165_e12, Q_BK161_e14, Q_BK162_e15, Q_X9_⟩ hb_ hon hoff
              refine ⟨_, rfl, fun K hK => ?_⟩
              have e2 : a.tmps[2]? = some (.pointer (some ⟨gb161, 0, none⟩)) := by rw [ha]; exact (putSel_off rfl).trans rfl
              have e24 : a.tmps[24]? = some (.agg #[.int .i64 t166, .int .i64 t167, .int .i64 t168, .int .i64 t169]) := by rw [ha]; exact putSel_on (e := (0, 24, .agg #[.int .i64 t166, .int .i64 t167, .int .i64 t168, .int .i64 t169])) 0 rfl rfl (hon 0 (by kernel_rfl)) rfl
              replace ha := Aside0.mk ha
              have BK161 := Aside0.mk (Q_BK161 hb_)
              have BK162 := Aside0.mk (Q_BK162 (hoff 15 (by kernel_rfl)))
              have BK171 := Aside0.mk Q_BK171
              have BK177 := Aside0.mk Q_BK177
              have HB := Aside0.mk Q_HB
              have HI165 := Aside0.mk (Q_HI165_e12 (hon 12 (by kernel_rfl)))
              have hs46 : w'.cell? ⟨gb161, 0, none⟩ = some (.int .i64 0) := (blk_cell BK161.out 0).trans rfl
              have hfs46 := blk_frozen BK161.out 0
              have hns46_1 := NB162_161.out
              have hns46_2 := NB171_161.out
              have hns46_3 := NB177_161.out
              have hms46_1 := NB161_162.out
              have hms46_2 := NB161_171.out
              have hms46_3 := NB161_177.out
              have hs47 : w'.cell? ⟨gb161, 1, none⟩ = some (.int .i64 0) := (blk_cell BK161.out 1).trans rfl
              have hfs47 := blk_frozen BK161.out 1
              have hns47_1 := NB162_161.out
              have hns47_2 := NB171_161.out
              have hns47_3 := NB177_161.out
              have hms47_1 := NB161_162.out
              have hms47_2 := NB161_171.out
              have hms47_3 := NB161_177.out
              have hs48 : w'.cell? ⟨gb161, 2, none⟩ = some (.int .i64 0) := (blk_cell BK161.out 2).trans rfl
              have hfs48 := blk_frozen BK161.out 2
              have hns48_1 := NB162_161.out
              have hns48_2 := NB171_161.out
              have hns48_3 := NB177_161.out
              have hms48_1 := NB161_162.out
              have hms48_2 := NB161_171.out
              have hms48_3 := NB161_177.out
              have hs49 : w'.cell? ⟨gb161, 3, none⟩ = some (.int .i64 0) := (blk_cell BK161.out 3).trans rfl
              have hfs49 := blk_frozen BK161.out 3
              have hns49_1 := NB162_161.out
              have hns49_2 := NB171_161.out
              have hns49_3 := NB177_161.out
              have hms49_1 := NB161_162.out
              have hms49_2 := NB161_171.out
              have hms49_3 := NB161_177.out
              refine skip_ (w1 := ?_) (by rfl) rfl ?_ ?_
              rotate_left
              · go_simp
                rfl
              refine hK.out _ _ ⟨v185, adz_v185, m9_, (by rw [ha.out]; exact putSel_none (v := undef) rfl), fun h0_ => absurd ((up_self b 14).symm.trans h0_) (by decide), fun _ => (by (with_reducible repeat (first | refine blk_drewN ?_ _ | refine blk_drew ?_ | refine blk_alloc ?_ _)); refine blk_far ?_ NB162_161.out _; (with_reducible repeat (first | refine blk_drewN ?_ _ | refine blk_drew ?_ | refine blk_alloc ?_ _)); refine blk_far ?_ NB162_161.out _; (with_reducible repeat (first | refine blk_drewN ?_ _ | refine blk_drew ?_ | refine blk_alloc ?_ _)); refine blk_far ?_ NB162_161.out _; (with_reducible repeat (first | refine blk_drewN ?_ _ | refine blk_drew ?_ | refine blk_alloc ?_ _)); refine blk_far ?_ NB162_161.out _; (with_reducible repeat (first | refine blk_drewN ?_ _ | refine blk_drew ?_ | refine blk_alloc ?_ _)); exact BK162.out), (by (with_reducible repeat (first | refine blk_drewN ?_ _ | refine blk_drew ?_ | refine blk_alloc ?_ _)); refine blk_far ?_ NB171_161.out _; (with_reducible repeat (first | refine blk_drewN ?_ _ | refine blk_drew ?_ | refine blk_alloc ?_ _)); refine blk_far ?_ NB171_161.out _; (with_reducible repeat (first | refine blk_drewN ?_ _ | refine blk_drew ?_ | refine blk_alloc ?_ _)); refine blk_far ?_ NB171_161.out _; (with_reducible repeat (first | refine blk_drewN ?_ _ | refine blk_drew ?_ | refine blk_alloc ?_ _)); refine blk_far ?_ NB171_161.out _; (with_reducible repeat (first | refine blk_drewN ?_ _ | refine blk_drew ?_ | refine blk_alloc ?_ _)); exact BK171.out), (by (with_reducible repeat (first | refine blk_drewN ?_ _ | refine blk_drew ?_ | refine blk_alloc ?_ _)); refine blk_far ?_ NB177_161.out _; (with_reducible repeat (first | refine blk_drewN ?_ _ | refine blk_drew ?_ | refine blk_alloc ?_ _)); refine blk_far ?_ NB177_161.out _; (with_reducible repeat (first | refine blk_drewN ?_ _ | refine blk_drew ?_ | refine blk_alloc ?_ _)); refine blk_far ?_ NB177_161.out _; (with_reducible repeat (first | refine blk_drewN ?_ _ | refine blk_drew ?_ | refine blk_alloc ?_ _)); refine blk_far ?_ NB177_161.out _; (with_reducible repeat (first | refine blk_drewN ?_ _ | refine blk_drew ?_ | refine blk_alloc ?_ _)); exact BK177.out), fun h0_ => absurd ((hon 3 (by kernel_rfl)).symm.trans h0_) (by decide), (by repeat (first | (with_reducible first | exact HB.out | apply below_alloc | apply pw_below_drewN | apply below_drew1 | refine below_set ?_ (IsS64.ge HI165.out) | refine below_set ?_ GE161.out | refine below_set ?_ GE162.out | refine below_set ?_ GE171.out | refine below_set ?_ GE177.out) | exact HB.out)), fun _ h1_ => absurd ((hon 5 (by kernel_rfl)).symm.trans h1_) (by decide), fun _ h1_ => absurd ((hon 8 (by kernel_rfl)).symm.trans h1_) (by decide), fun h0_ => (by (with_reducible repeat (first | apply Kd.R_alloc | apply Kd.R_drewN | apply Kd.R_drew)); exact Kd.R_mono (Kd.R_far (p := ⟨gb161, 3, none⟩) (Kd.R_far (p := ⟨gb161, 2, none⟩) (Kd.R_far (p := ⟨gb161, 1, none⟩) (Kd.R_far (p := ⟨gb161, 0, none⟩) (Kd.R_types (Q_HO186 h0_) BK161.out (by decide)) (fun _ hk => hk.2) (.int .i64 t166)) (fun _ hk => hk.2) (.int .i64 t167)) (fun _ hk => hk.2) (.int .i64 t168)) (fun _ hk => hk.2) (.int .i64 t169)) (fun _ hk => trivial)), Q_HA_HO186, fun _ h1_ => absurd ((hon 12 (by kernel_rfl)).symm.trans h1_) (by decide), fun _ => (by repeat (first | (with_reducible first | exact HI165.out | apply IsS64.alloc | apply IsS64.drewN | apply IsS64.drew | apply IsS64.set_1 | refine IsS64.far ?_ NB165_161.out _ | refine IsS64.far ?_ NB165_162.out _ | refine IsS64.far ?_ NB165_171.out _ | refine IsS64.far ?_ NB165_177.out _) | exact HI165.out)), fun _ => (by (with_reducible repeat (first | refine blk_drewN ?_ _ | refine blk_drew ?_ | refine blk_alloc ?_ _)); refine blk_put (cs := #[.int .i64 t166, .int .i64 t167, .int .i64 t168, .int .i64 0]) ?_ 3 _ rfl; (with_reducible repeat (first | refine blk_drewN ?_ _ | refine blk_drew ?_ | refine blk_alloc ?_ _)); refine blk_put (cs := #[.int .i64 t166, .int .i64 t167, .int .i64 0, .int .i64 0]) ?_ 2 _ rfl; (with_reducible repeat (first | refine blk_drewN ?_ _ | refine blk_drew ?_ | refine blk_alloc ?_ _)); refine blk_put (cs := #[.int .i64 t166, .int .i64 0, .int .i64 0, .int .i64 0]) ?_ 1 _ rfl; (with_reducible repeat (first | refine blk_drewN ?_ _ | refine blk_drew ?_ | refine blk_alloc ?_ _)); refine blk_put (cs := #[.int .i64 0, .int .i64 0, .int .i64 0, .int .i64 0]) ?_ 0 _ rfl; (with_reducible repeat (first | refine blk_drewN ?_ _ | refine blk_drew ?_ | refine blk_alloc ?_ _)); exact BK161.out), fun h0_ => absurd ((hoff 15 (by kernel_rfl)).symm.trans h0_) (by decide), Q_X9_⟩
            refine steps_cons ?_ ?_
            · rintro b a w' ⟨v185, adz_v185, m9_, ha, Q_BK161, Q_BK162, Q_BK171, Q_BK177, Q_HI165, Q_HB, Q_HI165_e3, Q_HI165_e5, Q_HO186, Q_HA_HO186, Q_HI165_e8, Q_HI165_e12, Q_BK161_e14, Q_BK162_e15, Q_X9_⟩ hb_ hon hoff
              refine ⟨_, rfl, fun K hK => ?_⟩
              have e3 : a.tmps[3]? = some (.pointer (some ⟨gb162, 0, none⟩)) := by rw [ha]; exact (putSel_off rfl).trans rfl
              have e25 : a.tmps[25]? = some (.agg #[.int .i64 x178000_5, .int .i64 x178001_5, .int .i64 t174, .int .i64 t175]) := by rw [ha]; exact putSel_on (e := (1, 25, .agg #[.int .i64 x178000_5, .int .i64 x178001_5, .int .i64 t174, .int .i64 t175])) 1 rfl rfl (hon 1 (by kernel_rfl)) rfl
              replace ha := Aside0.mk ha
              have BK162 := Aside0.mk (Q_BK162 hb_)
              have BK171 := Aside0.mk Q_BK171
              have BK177 := Aside0.mk Q_BK177
              have HB := Aside0.mk Q_HB
              have HI165 := Aside0.mk (Q_HI165_e12 (hon 12 (by kernel_rfl)))
              have BK161 := Aside0.mk (Q_BK161_e14 (hon 14 (by kernel_rfl)))
              have hs50 : w'.cell? ⟨gb162, 0, none⟩ = some (.int .i64 0) := (blk_cell BK162.out 0).trans rfl
              have hfs50 := blk_frozen BK162.out 0
              have hns50_0 := NB161_162.out
              have hns50_2 := NB171_162.out
              have hns50_3 := NB177_162.out
              have hms50_0 := NB162_161.out
              have hms50_2 := NB162_171.out
              have hms50_3 := NB162_177.out
              have hs51 : w'.cell? ⟨gb162, 1, none⟩ = some (.int .i64 0) := (blk_cell BK162.out 1).trans rfl
              have hfs51 := blk_frozen BK162.out 1
              have hns51_0 := NB161_162.out
              have hns51_2 := NB171_162.out
              have hns51_3 := NB177_162.out
              have hms51_0 := NB162_161.out
              have hms51_2 := NB162_171.out
              have hms51_3 := NB162_177.out
              have hs52 : w'.cell? ⟨gb162, 2, none⟩ = some (.int .i64 0) := (blk_cell BK162.out 2).trans rfl
              have hfs52 := blk_frozen BK162.out 2
              have hns52_0 := NB161_162.out
              have hns52_2 := NB171_162.out
              have hns52_3 := NB177_162.out
              have hms52_0 := NB162_161.out
              have hms52_2 := NB162_171.out
              have hms52_3 := NB162_177.out
              have hs53 : w'.cell? ⟨gb162, 3, none⟩ = some (.int .i64 0) := (blk_cell BK162.out 3).trans rfl
              have hfs53 := blk_frozen BK162.out 3
              have hns53_0 := NB161_162.out
              have hns53_2 := NB171_162.out
              have hns53_3 := NB177_162.out
              have hms53_0 := NB162_161.out
              have hms53_2 := NB162_171.out
              have hms53_3 := NB162_177.out
              refine skip_ (w1 := ?_) (by rfl) rfl ?_ ?_
              rotate_left
              · go_simp
                rfl
              refine hK.out _ _ ⟨v185, adz_v185, m9_, (by rw [ha.out]; exact putSel_none (v := undef) rfl), fun h0_ => absurd ((hon 14 (by kernel_rfl)).symm.trans h0_) (by decide), fun h0_ => absurd ((up_self b 15).symm.trans h0_) (by decide), (by (with_reducible repeat (first | refine blk_drewN ?_ _ | refine blk_drew ?_ | refine blk_alloc ?_ _)); refine blk_far ?_ NB171_162.out _; (with_reducible repeat (first | refine blk_drewN ?_ _ | refine blk_drew ?_ | refine blk_alloc ?_ _)); refine blk_far ?_ NB171_162.out _; (with_reducible repeat (first | refine blk_drewN ?_ _ | refine blk_drew ?_ | refine blk_alloc ?_ _)); refine blk_far ?_ NB171_162.out _; (with_reducible repeat (first | refine blk_drewN ?_ _ | refine blk_drew ?_ | refine blk_alloc ?_ _)); refine blk_far ?_ NB171_162.out _; (with_reducible repeat (first | refine blk_drewN ?_ _ | refine blk_drew ?_ | refine blk_alloc ?_ _)); exact BK171.out), (by (with_reducible repeat (first | refine blk_drewN ?_ _ | refine blk_drew ?_ | refine blk_alloc ?_ _)); refine blk_far ?_ NB177_162.out _; (with_reducible repeat (first | refine blk_drewN ?_ _ | refine blk_drew ?_ | refine blk_alloc ?_ _)); refine blk_far ?_ NB177_162.out _; (with_reducible repeat (first | refine blk_drewN ?_ _ | refine blk_drew ?_ | refine blk_alloc ?_ _)); refine blk_far ?_ NB177_162.out _; (with_reducible repeat (first | refine blk_drewN ?_ _ | refine blk_drew ?_ | refine blk_alloc ?_ _)); refine blk_far ?_ NB177_162.out _; (with_reducible repeat (first | refine blk_drewN ?_ _ | refine blk_drew ?_ | refine blk_alloc ?_ _)); exact BK177.out), fun h0_ => absurd ((hon 3 (by kernel_rfl)).symm.trans h0_) (by decide), (by repeat (first | (with_reducible first | exact HB.out | apply below_alloc | apply pw_below_drewN | apply below_drew1 | refine below_set ?_ (IsS64.ge HI165.out) | refine below_set ?_ GE161.out | refine below_set ?_ GE162.out | refine below_set ?_ GE171.out | refine below_set ?_ GE177.out) | exact HB.out)), fun _ h1_ => absurd ((hon 5 (by kernel_rfl)).symm.trans h1_) (by decide), fun _ h1_ => absurd ((hon 8 (by kernel_rfl)).symm.trans h1_) (by decide), fun h0_ => (by (with_reducible repeat (first | apply Kd.R_alloc | apply Kd.R_drewN | apply Kd.R_drew)); exact Kd.R_mono (Kd.R_far (p := ⟨gb162, 3, none⟩) (Kd.R_far (p := ⟨gb162, 2, none⟩) (Kd.R_far (p := ⟨gb162, 1, none⟩) (Kd.R_far (p := ⟨gb162, 0, none⟩) (Kd.R_types (Q_HO186 h0_) BK162.out (by decide)) (fun _ hk => hk.2) (.int .i64 x178000_5)) (fun _ hk => hk.2) (.int .i64 x178001_5)) (fun _ hk => hk.2) (.int .i64 t174)) (fun _ hk => hk.2) (.int .i64 t175)) (fun _ hk => trivial)), Q_HA_HO186, fun _ h1_ => absurd ((hon 12 (by kernel_rfl)).symm.trans h1_) (by decide), fun _ => (by repeat (first | (with_reducible first | exact HI165.out | apply IsS64.alloc | apply IsS64.drewN | apply IsS64.drew | apply IsS64.set_1 | refine IsS64.far ?_ NB165_161.out _ | refine IsS64.far ?_ NB165_162.out _ | refine IsS64.far ?_ NB165_171.out _ | refine IsS64.far ?_ NB165_177.out _) | exact HI165.out)), fun _ => (by (with_reducible repeat (first | refine blk_drewN ?_ _ | refine blk_drew ?_ | refine blk_alloc ?_ _)); refine blk_far ?_ NB161_162.out _; (with_reducible repeat (first | refine blk_drewN ?_ _ | refine blk_drew ?_ | refine blk_alloc ?_ _)); refine blk_far ?_ NB161_162.out _; (with_reducible repeat (first | refine blk_drewN ?_ _ | refine blk_drew ?_ | refine blk_alloc ?_ _)); refine blk_far ?_ NB161_162.out _; (with_reducible repeat (first | refine blk_drewN ?_ _ | refine blk_drew ?_ | refine blk_alloc ?_ _)); refine blk_far ?_ NB161_162.out _; (with_reducible repeat (first | refine blk_drewN ?_ _ | refine blk_drew ?_ | refine blk_alloc ?_ _)); exact BK161.out), fun _ => (by (with_reducible repeat (first | refine blk_drewN ?_ _ | refine blk_drew ?_ | refine blk_alloc ?_ _)); refine blk_put (cs := #[.int .i64 x178000_5, .int .i64 x178001_5, .int .i64 t174, .int .i64 0]) ?_ 3 _ rfl; (with_reducible repeat (first | refine blk_drewN ?_ _ | refine blk_drew ?_ | refine blk_alloc ?_ _)); refine blk_put (cs := #[.int .i64 x178000_5, .int .i64 x178001_5, .int .i64 0, .int .i64 0]) ?_ 2 _ rfl; (with_reducible repeat (first | refine blk_drewN ?_ _ | refine blk_drew ?_ | refine blk_alloc ?_ _)); refine blk_put (cs := #[.int .i64 x178000_5, .int .i64 0, .int .i64 0, .int .i64 0]) ?_ 1 _ rfl; (with_reducible repeat (first | refine blk_drewN ?_ _ | refine blk_drew ?_ | refine blk_alloc ?_ _)); refine blk_put (cs := #[.int .i64 0, .int .i64 0, .int .i64 0, .int .i64 0]) ?_ 0 _ rfl; (with_reducible repeat (first | refine blk_drewN ?_ _ | refine blk_drew ?_ | refine blk_alloc ?_ _)); exact BK162.out), Q_X9_⟩
            refine steps_cons ?_ ?_
            · rintro b a w' ⟨v185, adz_v185, m9_, ha, Q_BK161, Q_BK162, Q_BK171, Q_BK177, Q_HI165, Q_HB, Q_HI165_e3, Q_HI165_e5, Q_HO186, Q_HA_HO186, Q_HI165_e8, Q_HI165_e12, Q_BK161_e14, Q_BK162_e15, Q_X9_⟩ hb_ hon hoff
              refine ⟨_, rfl, fun K hK => ?_⟩
              have e34 : a.tmps[34]? = some (.int .i64 (rd y184 t187)) := by rw [ha]; exact putSel_on (e := (10, 34, .int .i64 (rd y184 t187))) 7 rfl rfl (hon 10 (by kernel_rfl)) rfl
              replace ha := Aside0.mk ha
              have BK171 := Aside0.mk Q_BK171
              have BK177 := Aside0.mk Q_BK177
              have HB := Aside0.mk Q_HB
              have HO186 := Aside0.mk (Q_HO186 (hon 6 (by kernel_rfl)))
              have HA_HO186 := Aside0.mk (Q_HA_HO186 (hon 6 (by kernel_rfl)))
              have HI165 := Aside0.mk (Q_HI165_e12 (hon 12 (by kernel_rfl)))
              have BK161 := Aside0.mk (Q_BK161_e14 (hon 14 (by kernel_rfl)))
              have BK162 := Aside0.mk (Q_BK162_e15 (hon 15 (by kernel_rfl)))
              refine value_ (w1 := w') (v := .int .i64 (rd y184 t187)) (by rfl) rfl ?_ ?_
              · go_simp
                (try simp only [i64_w])
                try rfl
              refine hK.out _ _ ⟨v185, adz_v185, m9_, (by rw [ha.out]; exact putSel_upk 10 hb_ rfl rfl rfl), fun h0_ => absurd ((hon 14 (by kernel_rfl)).symm.trans h0_) (by decide), fun h0_ => absurd ((hon 15 (by kernel_rfl)).symm.trans h0_) (by decide), Q_BK171, Q_BK177, fun h0_ => absurd ((hon 3 (by kernel_rfl)).symm.trans h0_) (by decide), Q_HB, fun _ h1_ => absurd ((hon 5 (by kernel_rfl)).symm.trans h1_) (by decide), fun _ h1_ => absurd ((hon 8 (by kernel_rfl)).symm.trans h1_) (by decide), Q_HO186, Q_HA_HO186, fun _ h1_ => absurd ((hon 12 (by kernel_rfl)).symm.trans h1_) (by decide), Q_HI165_e12, Q_BK161_e14, Q_BK162_e15, Q_X9_⟩
            refine steps_cons ?_ ?_
            · rintro b a w' ⟨v185, adz_v185, m9_, ha, Q_BK161, Q_BK162, Q_BK171, Q_BK177, Q_HI165, Q_HB, Q_HI165_e3, Q_HI165_e5, Q_HO186, Q_HA_HO186, Q_HI165_e8, Q_HI165_e12, Q_BK161_e14, Q_BK162_e15, Q_X9_⟩ hb_ hon hoff
              refine ⟨_, rfl, fun K hK => ?_⟩
              have e37 : a.tmps[37]? = some (.int .i64 (wrap64 (t190 - 4))) := by rw [ha]; exact putSel_on (e := (13, 37, .int .i64 (wrap64 (t190 - 4)))) 9 rfl rfl (hon 13 (by kernel_rfl)) rfl
              replace ha := Aside0.mk ha
              have BK171 := Aside0.mk Q_BK171
              have BK177 := Aside0.mk Q_BK177
              have HB := Aside0.mk Q_HB
              have HO186 := Aside0.mk (Q_HO186 (hon 6 (by kernel_rfl)))
              have HA_HO186 := Aside0.mk (Q_HA_HO186 (hon 6 (by kernel_rfl)))
              have HI165 := Aside0.mk (Q_HI165_e12 (hon 12 (by kernel_rfl)))
              have BK161 := Aside0.mk (Q_BK161_e14 (hon 14 (by kernel_rfl)))
              have BK162 := Aside0.mk (Q_BK162_e15 (hon 15 (by kernel_rfl)))
              refine value_ (w1 := w') (v := .int .i64 (wrap64 (t190 - 4))) (by rfl) rfl ?_ ?_
              · go_simp
                (try simp only [i64_w])
                try rfl
              refine hK.out _ _ ⟨v185, adz_v185, m9_, (by rw [ha.out]; exact putSel_upk 11 hb_ rfl rfl rfl), fun h0_ => absurd ((hon 14 (by kernel_rfl)).symm.trans h0_) (by decide), fun h0_ => absurd ((hon 15 (by kernel_rfl)).symm.trans h0_) (by decide), Q_BK171, Q_BK177, fun h0_ => absurd ((hon 3 (by kernel_rfl)).symm.trans h0_) (by decide), Q_HB, fun _ h1_ => absurd ((hon 5 (by kernel_rfl)).symm.trans h1_) (by decide), fun _ h1_ => absurd ((hon 8 (by kernel_rfl)).symm.trans h1_) (by decide), Q_HO186, Q_HA_HO186, fun _ h1_ => absurd ((hon 12 (by kernel_rfl)).symm.trans h1_) (by decide), Q_HI165_e12, Q_BK161_e14, Q_BK162_e15, Q_X9_⟩
            exact steps_nil
          rintro b a w56 hall ⟨v185, adz_v185, m9_, ha, Q_BK161, Q_BK162, Q_BK171, Q_BK177, Q_HI165, Q_HB, Q_HI165_e3, Q_HI165_e5, Q_HO186, Q_HA_HO186, Q_HI165_e8, Q_HI165_e12, Q_BK161_e14, Q_BK162_e15, Q_X9_⟩
          clear BK161 BK162 BK171 BK177 HB HI165
          have hb0_ := hall 0 (by kernel_rfl)
          have hb1_ := hall 1 (by kernel_rfl)
          have hb3_ := hall 3 (by kernel_rfl)
          have hb5_ := hall 5 (by kernel_rfl)
          have hb6_ := hall 6 (by kernel_rfl)
          have hb8_ := hall 8 (by kernel_rfl)
          have hb9_ := hall 9 (by kernel_rfl)
          have hb10_ := hall 10 (by kernel_rfl)
          have hb12_ := hall 12 (by kernel_rfl)
          have hb13_ := hall 13 (by kernel_rfl)
          have hb14_ := hall 14 (by kernel_rfl)
          have hb15_ := hall 15 (by kernel_rfl)
          have hb16_ := hall 16 (by kernel_rfl)
          have hb17_ := hall 17 (by kernel_rfl)
          subst ha
          obtain rfl := Q_X9_ hb9_
          simp only [putSel, hb0_, hb1_, hb3_, hb5_, hb6_, hb8_, hb9_, hb10_, hb12_, hb13_, hb14_, hb15_, hb16_, hb17_, if_true, Act.put, List.setIfInBounds_toArray, List.set_cons_zero, List.set_cons_succ]
          clear Q_BK161
          clear Q_BK162
          have BK171 := Aside0.mk Q_BK171
          clear Q_BK171
          have BK177 := Aside0.mk Q_BK177
          clear Q_BK177
          clear Q_HI165
          have HB := Aside0.mk Q_HB
          clear Q_HB
          clear Q_HI165_e3
          clear Q_HI165_e5
          have HO186 := Aside0.mk (Q_HO186 hb6_)
          clear Q_HO186
          have HA_HO186 := Aside0.mk (Q_HA_HO186 hb6_)
          clear Q_HA_HO186
          clear Q_HI165_e8
          have HI165 := Aside0.mk (Q_HI165_e12 hb12_)
          clear Q_HI165_e12
          have BK161 := Aside0.mk (Q_BK161_e14 hb14_)
          clear Q_BK161_e14
          have BK162 := Aside0.mk (Q_BK162_e15 hb15_)
          clear Q_BK162_e15
          clear hall hb0_ hb1_ hb3_ hb5_ hb6_ hb8_ hb9_ hb10_ hb12_ hb13_ hb14_ hb15_ hb16_ hb17_
          obtain ⟨co57, eo57⟩ := HA_HO186.out
          clear HA_HO186
          subst eo57
          try go_wp2
          refine bodyPost_ret (results_list (rs := [.cell 2 25, .cell 3 25, .tmp 4, .tmp 5]) rfl (by simp) (.cell gb161 25 #[.int .i64 t166, .int .i64 t167, .int .i64 t168, .int .i64 t169] (0, 0) _ rfl (by (with_reducible repeat (first | refine blk_drewN ?_ _ | refine blk_drew ?_ | refine blk_alloc ?_ _)); exact BK161.out) Try.underlying25 rfl (by kernel_rfl) (.cell gb162 25 #[.int .i64 x178000_5, .int .i64 x178001_5, .int .i64 t174, .int .i64 t175] (0, 0) _ rfl (by (with_reducible repeat (first | refine blk_drewN ?_ _ | refine blk_drew ?_ | refine blk_alloc ?_ _)); exact BK162.out) Try.underlying25 rfl (by kernel_rfl) (.tmp (.tmp .nil))))) rfl ?_
          exact ⟨by first | rfl | (simp [errW_none, errW_some] <;> rfl) | (simp [*, errW_none, errW_some] <;> rfl), by repeat (first | (with_reducible first | exact HB.out | apply below_alloc | apply pw_below_drewN | apply below_drew1 | refine below_set ?_ (IsS64.ge HI165.out) | refine below_set ?_ GE161.out | refine below_set ?_ GE162.out | refine below_set ?_ GE171.out | refine below_set ?_ GE177.out) | exact HB.out)⟩
        · rw [if_neg c38] at H
          exact absurd H (by simp)
      · rw [if_neg c37] at H
        exact absurd H (by simp)

/-! ### impl_in: function 35 -/
def impl_in.f (a0 : Int) (a1 : Int) (a2 : Int) : Option (Bool) := if a0 ≥ a1 then (some (decide (a0 ≤ a2))) else (some false)
set_option maxHeartbeats 8000000 in
set_option maxRecDepth 100000 in
theorem impl_in.calls (a0 : Int) (a1 : Int) (a2 : Int) (r : Bool) (w : World) (h : impl_in.f a0 a1 a2 = some r) :
    Calls Try.prog 35 #[.int .i64 a0, .int .i64 a1, .int .i64 a2] w fun e w' => e = .returned (.bool r) ∧ Drawn0 w w' := by
  have H : (if a0 ≥ a1 then (some (decide (a0 ≤ a2))) else (some false)) = some r := h
  clear h
  by_cases c4 : a0 ≥ a1
  · rw [if_pos c4] at H
    have c4b0 : decide (a1 ≤ a0) = true := decide_eq_true c4
    clear c4
    obtain rfl := Option.some.inj H
    go_enter Try.func35, Try.ntmps35
    go_wp2
    go_ret
    exact ⟨by first | rfl | (simp; done) | (simp [*]; done), by repeat (first | exact Drawn0.refl _ | apply Drawn0.step)⟩
  · rw [if_neg c4] at H
    have c4b0 : decide (a1 ≤ a0) = false := decide_eq_false c4
    clear c4
    obtain rfl := Option.some.inj H
    go_enter Try.func35, Try.ntmps35
    go_wp2
    go_ret
    exact ⟨by first | rfl | (simp; done) | (simp [*]; done), by repeat (first | exact Drawn0.refl _ | apply Drawn0.step)⟩

/-! ### impl_CoordOk: function 17 -/
def impl_CoordOk.f (a0_0 : Int) (a0_1 : Int) (a0_2 : Int) (a0_3 : Int) : Option (Bool) := (impl_in.f a0_0 (-100000) 100000).bind fun t193 => (if t193 = true then ((impl_in.f a0_1 (-100000) 100000).bind fun t194 => (if t194 = true then ((impl_in.f a0_2 0 100000).bind fun t195 => (if t195 = true then ((impl_in.f a0_3 1 1500).bind fun t196 => (some t196)) else (some false))) else (some false))) else (some false))
set_option maxHeartbeats 8000000 in
set_option maxRecDepth 100000 in
theorem impl_CoordOk.calls (a0_0 : Int) (a0_1 : Int) (a0_2 : Int) (a0_3 : Int) (r : Bool) (w : World) (h : impl_CoordOk.f a0_0 a0_1 a0_2 a0_3 = some r) :
    Calls Try.prog 17 #[.agg #[.int .i64 a0_0, .int .i64 a0_1, .int .i64 a0_2, .int .i64 a0_3]] w fun e w' => e = .returned (.bool r) ∧ Below w.heap.size w w' := by
  have hu25 := Try.underlying25
  have HB := Aside0.mk (Below.refl w.heap.size w)
  have H : ((impl_in.f a0_0 (-100000) 100000).bind fun t193 => (if t193 = true then ((impl_in.f a0_1 (-100000) 100000).bind fun t194 => (if t194 = true then ((impl_in.f a0_2 0 100000).bind fun t195 => (if t195 = true then ((impl_in.f a0_3 1 1500).bind fun t196 => (some t196)) else (some false))) else (some false))) else (some false))) = some r := h
  clear h
  replace H := Option.bind_eq_some_iff.mp H
  obtain ⟨t193, A20, H⟩ := H
  replace H : (if t193 = true then ((impl_in.f a0_1 (-100000) 100000).bind fun t194 => (if t194 = true then ((impl_in.f a0_2 0 100000).bind fun t195 => (if t195 = true then ((impl_in.f a0_3 1 1500).bind fun t196 => (some t196)) else (some false))) else (some false))) else (some false)) = some r := H
  have A2 := Aside0.mk A20
  clear A20
  by_cases c3 : t193 = true
  · subst c3
    have H1 : ((impl_in.f a0_1 (-100000) 100000).bind fun t194 => (if t194 = true then ((impl_in.f a0_2 0 100000).bind fun t195 => (if t195 = true then ((impl_in.f a0_3 1 1500).bind fun t196 => (some t196)) else (some false))) else (some false))) = some r := by rw [if_pos rfl] at H; exact H
    clear H
    have H := H1
    clear H1
    replace H := Option.bind_eq_some_iff.mp H
    obtain ⟨t194, A40, H⟩ := H
    replace H : (if t194 = true then ((impl_in.f a0_2 0 100000).bind fun t195 => (if t195 = true then ((impl_in.f a0_3 1 1500).bind fun t196 => (some t196)) else (some false))) else (some false)) = some r := H
    have A4 := Aside0.mk A40
    clear A40
    by_cases c5 : t194 = true
    · subst c5
      have H1 : ((impl_in.f a0_2 0 100000).bind fun t195 => (if t195 = true then ((impl_in.f a0_3 1 1500).bind fun t196 => (some t196)) else (some false))) = some r := by rw [if_pos rfl] at H; exact H
      clear H
      have H := H1
      clear H1
      replace H := Option.bind_eq_some_iff.mp H
      obtain ⟨t195, A60, H⟩ := H
      replace H : (if t195 = true then ((impl_in.f a0_3 1 1500).bind fun t196 => (some t196)) else (some false)) = some r := H
      have A6 := Aside0.mk A60
      clear A60
      by_cases c7 : t195 = true
      · subst c7
        have H1 : ((impl_in.f a0_3 1 1500).bind fun t196 => (some t196)) = some r := by rw [if_pos rfl] at H; exact H
        clear H
        have H := H1
        clear H1
        replace H := Option.bind_eq_some_iff.mp H
        obtain ⟨t196, A80, H⟩ := H
        replace H : (some t196) = some r := H
        have A8 := Aside0.mk A80
        clear A80
        obtain rfl := Option.some.inj H
        go_enter Try.func17, Try.ntmps17
        go_wp2_with (first | ((with_reducible refine gate_dst (N := 1) rfl ?_); refine box_event ?hg (N := 1) ?hd (cs := #[.int .i64 a0_0, .int .i64 a0_1, .int .i64 a0_2, .int .i64 a0_3]) (t := 25) ?hr ?_; (case hd => rfl); (case hg => rfl); (case hr => first | (go_simp; done) | (go_simp; rfl)); intro gb192 hg w9 hbox hb; have n0_ := Aside0.mk (below_step (by repeat (first | (with_reducible first | exact HB.out | apply below_alloc | apply pw_below_drewN | apply below_drew1) | exact HB.out)) hb); have n1_ := Aside0.mk (hbox); have n2_ := Aside0.mk ((by rw [hg]; exact (below_size (by repeat (first | (with_reducible first | exact HB.out | apply below_alloc | apply pw_below_drewN | apply below_drew1) | exact HB.out))) : w.heap.size ≤ gb192)); have n3_ := Aside0.mk ((by rw [hg]; exact (below_size (by repeat (first | (with_reducible first | exact HB.out | apply below_alloc | apply pw_below_drewN | apply below_drew1) | exact HB.out))) : w.heap.size ≤ gb192)); clear HB; have HB := n0_; have BK192 := n1_; have GW192 := n2_; have GE192 := n3_; clear n0_ n1_ n2_ n3_; clear hb hbox hg; have hcz10_0 : w9.cell? ⟨gb192, 0, none⟩ = some (.int .i64 a0_0) := (blk_cell BK192.out 0).trans rfl; have hcz10_1 : w9.cell? ⟨gb192, 1, none⟩ = some (.int .i64 a0_1) := (blk_cell BK192.out 1).trans rfl; have hcz10_2 : w9.cell? ⟨gb192, 2, none⟩ = some (.int .i64 a0_2) := (blk_cell BK192.out 2).trans rfl; have hcz10_3 : w9.cell? ⟨gb192, 3, none⟩ = some (.int .i64 a0_3) := (blk_cell BK192.out 3).trans rfl; have hfz10_0 := blk_frozen BK192.out 0; have hfz10_1 := blk_frozen BK192.out 1; have hfz10_2 := blk_frozen BK192.out 2; have hfz10_3 := blk_frozen BK192.out 3) | ((with_reducible refine gate_callee (f := 35) rfl ?_); refine goesL_ (some 5) rfl rfl Try.func35 (by kernel_rfl) rfl #[.int .i64 a0_0, .int .i64 (-100000), .int .i64 100000] rfl (by (try simp only [List.map_toArray, List.map_cons, List.map_nil]); first | done | rfl | (simp only [List.length_drop, List.length_take]; rfl)) ?_; (with_reducible refine (impl_in.calls a0_0 (-100000) 100000 true _ A2.out).mono ?_); rintro e w' ⟨rfl, ⟨nd, rfl⟩⟩; refine ⟨_, rfl, ?_⟩; (try clear A2)) | (go_at_call 35; (with_reducible refine (impl_in.calls a0_1 (-100000) 100000 true _ A4.out).mono ?_); rintro e w' ⟨rfl, ⟨nd, rfl⟩⟩; (try clear A4)) | (go_at_call 35; (with_reducible refine (impl_in.calls a0_2 0 100000 true _ A6.out).mono ?_); rintro e w' ⟨rfl, ⟨nd, rfl⟩⟩; (try clear A6)) | (go_at_call 35; (with_reducible refine (impl_in.calls a0_3 1 1500 t196 _ A8.out).mono ?_); rintro e w' ⟨rfl, ⟨nd, rfl⟩⟩; (try clear A8)))
        go_ret
        exact ⟨by first | rfl | (simp [errW_none, errW_some] <;> rfl) | (simp [*, errW_none, errW_some] <;> rfl), by repeat (first | (with_reducible first | exact HB.out | apply below_alloc | apply pw_below_drewN | apply below_drew1 | refine below_set ?_ GE192.out) | exact HB.out)⟩
      · replace c7 := Bool.eq_false_iff.mpr c7
        subst c7
        have H1 : (some false) = some r := by rw [if_neg (show ¬ (false = true) by decide)] at H; exact H
        clear H
        have H := H1
        clear H1
        obtain rfl := Option.some.inj H
        go_enter Try.func17, Try.ntmps17
        go_wp2_with (first | ((with_reducible refine gate_dst (N := 1) rfl ?_); refine box_event ?hg (N := 1) ?hd (cs := #[.int .i64 a0_0, .int .i64 a0_1, .int .i64 a0_2, .int .i64 a0_3]) (t := 25) ?hr ?_; (case hd => rfl); (case hg => rfl); (case hr => first | (go_simp; done) | (go_simp; rfl)); intro gb192 hg w11 hbox hb; have n0_ := Aside0.mk (below_step (by repeat (first | (with_reducible first | exact HB.out | apply below_alloc | apply pw_below_drewN | apply below_drew1) | exact HB.out)) hb); have n1_ := Aside0.mk (hbox); have n2_ := Aside0.mk ((by rw [hg]; exact (below_size (by repeat (first | (with_reducible first | exact HB.out | apply below_alloc | apply pw_below_drewN | apply below_drew1) | exact HB.out))) : w.heap.size ≤ gb192)); have n3_ := Aside0.mk ((by rw [hg]; exact (below_size (by repeat (first | (with_reducible first | exact HB.out | apply below_alloc | apply pw_below_drewN | apply below_drew1) | exact HB.out))) : w.heap.size ≤ gb192)); clear HB; have HB := n0_; have BK192 := n1_; have GW192 := n2_; have GE192 := n3_; clear n0_ n1_ n2_ n3_; clear hb hbox hg; have hcz12_0 : w11.cell? ⟨gb192, 0, none⟩ = some (.int .i64 a0_0) := (blk_cell BK192.out 0).trans rfl; have hcz12_1 : w11.cell? ⟨gb192, 1, none⟩ = some (.int .i64 a0_1) := (blk_cell BK192.out 1).trans rfl; have hcz12_2 : w11.cell? ⟨gb192, 2, none⟩ = some (.int .i64 a0_2) := (blk_cell BK192.out 2).trans rfl; have hcz12_3 : w11.cell? ⟨gb192, 3, none⟩ = some (.int .i64 a0_3) := (blk_cell BK192.out 3).trans rfl; have hfz12_0 := blk_frozen BK192.out 0; have hfz12_1 := blk_frozen BK192.out 1; have hfz12_2 := blk_frozen BK192.out 2; have hfz12_3 := blk_frozen BK192.out 3) | ((with_reducible refine gate_callee (f := 35) rfl ?_); refine goesL_ (some 5) rfl rfl Try.func35 (by kernel_rfl) rfl #[.int .i64 a0_0, .int .i64 (-100000), .int .i64 100000] rfl (by (try simp only [List.map_toArray, List.map_cons, List.map_nil]); first | done | rfl | (simp only [List.length_drop, List.length_take]; rfl)) ?_; (with_reducible refine (impl_in.calls a0_0 (-100000) 100000 true _ A2.out).mono ?_); rintro e w' ⟨rfl, ⟨nd, rfl⟩⟩; refine ⟨_, rfl, ?_⟩; (try clear A2)) | (go_at_call 35; (with_reducible refine (impl_in.calls a0_1 (-100000) 100000 true _ A4.out).mono ?_); rintro e w' ⟨rfl, ⟨nd, rfl⟩⟩; (try clear A4)) | (go_at_call 35; (with_reducible refine (impl_in.calls a0_2 0 100000 false _ A6.out).mono ?_); rintro e w' ⟨rfl, ⟨nd, rfl⟩⟩; (try clear A6)))
        go_ret
        exact ⟨by first | rfl | (simp [errW_none, errW_some] <;> rfl) | (simp [*, errW_none, errW_some] <;> rfl), by repeat (first | (with_reducible first | exact HB.out | apply below_alloc | apply pw_below_drewN | apply below_drew1 | refine below_set ?_ GE192.out) | exact HB.out)⟩
    · replace c5 := Bool.eq_false_iff.mpr c5
      subst c5
      have H1 : (some false) = some r := by rw [if_neg (show ¬ (false = true) by decide)] at H; exact H
      clear H
      have H := H1
      clear H1
      obtain rfl := Option.some.inj H
      go_enter Try.func17, Try.ntmps17
      go_wp2_with (first | ((with_reducible refine gate_dst (N := 1) rfl ?_); refine box_event ?hg (N := 1) ?hd (cs := #[.int .i64 a0_0, .int .i64 a0_1, .int .i64 a0_2, .int .i64 a0_3]) (t := 25) ?hr ?_; (case hd => rfl); (case hg => rfl); (case hr => first | (go_simp; done) | (go_simp; rfl)); intro gb192 hg w13 hbox hb; have n0_ := Aside0.mk (below_step (by repeat (first | (with_reducible first | exact HB.out | apply below_alloc | apply pw_below_drewN | apply below_drew1) | exact HB.out)) hb); have n1_ := Aside0.mk (hbox); have n2_ := Aside0.mk ((by rw [hg]; exact (below_size (by repeat (first | (with_reducible first | exact HB.out | apply below_alloc | apply pw_below_drewN | apply below_drew1) | exact HB.out))) : w.heap.size ≤ gb192)); have n3_ := Aside0.mk ((by rw [hg]; exact (below_size (by repeat (first | (with_reducible first | exact HB.out | apply below_alloc | apply pw_below_drewN | apply below_drew1) | exact HB.out))) : w.heap.size ≤ gb192)); clear HB; have HB := n0_; have BK192 := n1_; have GW192 := n2_; have GE192 := n3_; clear n0_ n1_ n2_ n3_; clear hb hbox hg; have hcz14_0 : w13.cell? ⟨gb192, 0, none⟩ = some (.int .i64 a0_0) := (blk_cell BK192.out 0).trans rfl; have hcz14_1 : w13.cell? ⟨gb192, 1, none⟩ = some (.int .i64 a0_1) := (blk_cell BK192.out 1).trans rfl; have hcz14_2 : w13.cell? ⟨gb192, 2, none⟩ = some (.int .i64 a0_2) := (blk_cell BK192.out 2).trans rfl; have hcz14_3 : w13.cell? ⟨gb192, 3, none⟩ = some (.int .i64 a0_3) := (blk_cell BK192.out 3).trans rfl; have hfz14_0 := blk_frozen BK192.out 0; have hfz14_1 := blk_frozen BK192.out 1; have hfz14_2 := blk_frozen BK192.out 2; have hfz14_3 := blk_frozen BK192.out 3) | ((with_reducible refine gate_callee (f := 35) rfl ?_); refine goesL_ (some 5) rfl rfl Try.func35 (by kernel_rfl) rfl #[.int .i64 a0_0, .int .i64 (-100000), .int .i64 100000] rfl (by (try simp only [List.map_toArray, List.map_cons, List.map_nil]); first | done | rfl | (simp only [List.length_drop, List.length_take]; rfl)) ?_; (with_reducible refine (impl_in.calls a0_0 (-100000) 100000 true _ A2.out).mono ?_); rintro e w' ⟨rfl, ⟨nd, rfl⟩⟩; refine ⟨_, rfl, ?_⟩; (try clear A2)) | (go_at_call 35; (with_reducible refine (impl_in.calls a0_1 (-100000) 100000 false _ A4.out).mono ?_); rintro e w' ⟨rfl, ⟨nd, rfl⟩⟩; (try clear A4)))
      go_ret
      exact ⟨by first | rfl | (simp [errW_none, errW_some] <;> rfl) | (simp [*, errW_none, errW_some] <;> rfl), by repeat (first | (with_reducible first | exact HB.out | apply below_alloc | apply pw_below_drewN | apply below_drew1 | refine below_set ?_ GE192.out) | exact HB.out)⟩
  · replace c3 := Bool.eq_false_iff.mpr c3
    subst c3
    have H1 : (some false) = some r := by rw [if_neg (show ¬ (false = true) by decide)] at H; exact H
    clear H
    have H := H1
    clear H1
    obtain rfl := Option.some.inj H
    go_enter Try.func17, Try.ntmps17
    go_wp2_with (first | ((with_reducible refine gate_dst (N := 1) rfl ?_); refine box_event ?hg (N := 1) ?hd (cs := #[.int .i64 a0_0, .int .i64 a0_1, .int .i64 a0_2, .int .i64 a0_3]) (t := 25) ?hr ?_; (case hd => rfl); (case hg => rfl); (case hr => first | (go_simp; done) | (go_simp; rfl)); intro gb192 hg w15 hbox hb; have n0_ := Aside0.mk (below_step (by repeat (first | (with_reducible first | exact HB.out | apply below_alloc | apply pw_below_drewN | apply below_drew1) | exact HB.out)) hb); have n1_ := Aside0.mk (hbox); have n2_ := Aside0.mk ((by rw [hg]; exact (below_size (by repeat (first | (with_reducible first | exact HB.out | apply below_alloc | apply pw_below_drewN | apply below_drew1) | exact HB.out))) : w.heap.size ≤ gb192)); have n3_ := Aside0.mk ((by rw [hg]; exact (below_size (by repeat (first | (with_reducible first | exact HB.out | apply below_alloc | apply pw_below_drewN | apply below_drew1) | exact HB.out))) : w.heap.size ≤ gb192)); clear HB; have HB := n0_; have BK192 := n1_; have GW192 := n2_; have GE192 := n3_; clear n0_ n1_ n2_ n3_; clear hb hbox hg; have hcz16_0 : w15.cell? ⟨gb192, 0, none⟩ = some (.int .i64 a0_0) := (blk_cell BK192.out 0).trans rfl; have hcz16_1 : w15.cell? ⟨gb192, 1, none⟩ = some (.int .i64 a0_1) := (blk_cell BK192.out 1).trans rfl; have hcz16_2 : w15.cell? ⟨gb192, 2, none⟩ = some (.int .i64 a0_2) := (blk_cell BK192.out 2).trans rfl; have hcz16_3 : w15.cell? ⟨gb192, 3, none⟩ = some (.int .i64 a0_3) := (blk_cell BK192.out 3).trans rfl; have hfz16_0 := blk_frozen BK192.out 0; have hfz16_1 := blk_frozen BK192.out 1; have hfz16_2 := blk_frozen BK192.out 2; have hfz16_3 := blk_frozen BK192.out 3) | ((with_reducible refine gate_callee (f := 35) rfl ?_); refine goesL_ (some 5) rfl rfl Try.func35 (by kernel_rfl) rfl #[.int .i64 a0_0, .int .i64 (-100000), .int .i64 100000] rfl (by (try simp only [List.map_toArray, List.map_cons, List.map_nil]); first | done | rfl | (simp only [List.length_drop, List.length_take]; rfl)) ?_; (with_reducible refine (impl_in.calls a0_0 (-100000) 100000 false _ A2.out).mono ?_); rintro e w' ⟨rfl, ⟨nd, rfl⟩⟩; refine ⟨_, rfl, ?_⟩; (try clear A2)))
    go_ret
    exact ⟨by first | rfl | (simp [errW_none, errW_some] <;> rfl) | (simp [*, errW_none, errW_some] <;> rfl), by repeat (first | (with_reducible first | exact HB.out | apply below_alloc | apply pw_below_drewN | apply below_drew1 | refine below_set ?_ GE192.out) | exact HB.out)⟩

end Go.Proofs.Ytbpapiejmedkeaa.PFnCoordBad
