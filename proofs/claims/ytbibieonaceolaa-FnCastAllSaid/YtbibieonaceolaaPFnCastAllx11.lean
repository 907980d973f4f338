/- Functions of the program as plain functions, and that each call does what they tell. Conditions: none. -/
import Derived.Test.YtbibieonaceolaaPFnCastAllx0
import Derived.Test.YtbibieonaceolaaPFnCastAllx7
import Derived.Test.YtbibieonaceolaaPFnCastAllx9
import Derived.Test.YtbibieonaceolaaPFnCastAllx10
namespace Go.Proofs.Ytbibieonaceolaa.PFnCastAll
open Go.RowKit Go.Proofs.YtbibieonaceolaaW.PrintWords Go.Proofs.YtbibieonaceolaaW.PrintLast Go.Proofs.YtbibieonaceolaaW.PrintMore
attribute [local go_sem] max2_int min2_int max_two min_two max_three min_three max_four min_four
set_option linter.unusedVariables false
set_option linter.unusedSimpArgs false

/-! ### slices_Sort_int_int: function 27 -/
def slices_Sort_int_int.f (k : Nat) (l0 : List Int) : Option (List Int) := (bits_Len.f (IntKind.u64.wrap ((l0.length : Int)))).bind fun t209 => ((slices_pdqsortOrdered_int.f k l0 0 (l0.length : Int) t209).bind fun t210 => (some t210))
theorem slices_Sort_int_int.mono : ∀ a0 k, LeO (slices_Sort_int_int.f k a0) (slices_Sort_int_int.f (k + 1) a0) := by
 intro a0 k; unfold slices_Sort_int_int.f
 repeat' first
   | (with_reducible exact slices_pdqsortOrdered_int.mono _ _ _ _ _)
   | (with_reducible exact LeO.refl _)
   | (with_reducible exact LeO.none _)
   | (with_reducible refine LeO.ite ?_ ?_)
   | (with_reducible refine LeO.bind ?_ (fun _ => ?_))
   | exact slices_pdqsortOrdered_int.mono _ _ _ _ _
   | exact LeO.none _
   | refine LeO.ite ?_ ?_
   | refine LeO.bind ?_ (fun _ => ?_)
set_option maxHeartbeats 8000000 in
set_option maxRecDepth 100000 in
theorem slices_Sort_int_int.calls (k : Nat) (P0_ : Nat → Prop) (u9000_ : Value) (l0 : List Int) (r : List Int) (w0 w : World) (hB : Below w0.heap.size w0 w) (ho0 : Kd.R (Kd.int .i64) 3 w w0.heap.size P0_ u9000_ l0) (h : slices_Sort_int_int.f k l0 = some r) :
  Calls Try.prog 27 #[u9000_] w fun e w' => e = .returned (.tuple #[]) ∧ Kd.R (Kd.int .i64) 3 w' w0.heap.size (fun k_ => (P0_ k_ ∨ w.heap.size ≤ k_)) u9000_ r ∧ Below w0.heap.size w0 w' ∧ Kept w w' (fun k_ => P0_ k_) := by
 unfold slices_Sort_int_int.f at h; obtain ⟨q1, -, h⟩ := Option.bind_eq_some_iff.mp h; obtain ⟨q, h1, h2⟩ := Option.bind_eq_some_iff.mp h; obtain rfl := Option.some.inj h2; obtain ⟨A, c, rfl⟩ := Kd.R_slice ho0; have hlen : l0.length ≤ 9223372036854775807 := (Kd.R_reads' ho0).2.2.2.1
 have hl : l0.length ≤ 12 := by
  cases k with
  | zero => simp [slices_pdqsortOrdered_int.f, slices_pdqsortOrdered_int.l0] at h1
  | succ k =>
   simp only [slices_pdqsortOrdered_int.f, slices_pdqsortOrdered_int.l0] at h1; by_cases c : wrap64 ((l0.length : Int) - 0) ≤ 12
   ·unfold wrap64 at c; omega
   ·rw [if_neg c] at h1; cases h1
 have hw : IntKind.u64.wrap (l0.length : Int) = (l0.length : Int) := by unfold IntKind.wrap; simp only [IntKind.bits, IntKind.signed]; first | omega | (simp; omega)
 have hcall : ∀ v : Int, slices_pdqsortOrdered_int.f k l0 0 (l0.length : Int) v = some q := fun v => h1; go_enter Try.func27, Try.ntmps27
 go_wp2_with (first
  | (go_at_call 48; refine (len_small l0.length hl _).mono ?_; rintro e w1 ⟨⟨v, rfl⟩, rfl⟩; have HS_ := slices_pdqsortOrdered_int.calls k P0_ _ l0 0 (l0.length : Int) v q w0 w1 hB ho0 (hcall v))
  | (go_at_call 47; refine HS_.mono ?_; rintro e w2 ⟨rfl, ho2, hb2, hk2⟩))
 first | go_end0 | ((try simp only [Exit.inBlock, Exit.then]); refine bodyPost_ret (results_none rfl _ _ _) rfl ?_)
 exact ⟨rfl, ho2, hb2, hk2⟩

/-! ### impl_CastTake_2: function 29 -/
def impl_CastTake_2.f (a0_0 : Int) (a0_1 : Int) (a0_2 : Int) (a0_3 : Bool) (a0_4 : Int) : Option (Bool) := some (a0_4 == 0)
set_option maxHeartbeats 8000000 in
set_option maxRecDepth 100000 in
theorem impl_CastTake_2.calls (a0_0 : Int) (a0_1 : Int) (a0_2 : Int) (a0_3 : Bool) (a0_4 : Int) (r : Bool) (w : World) (h : impl_CastTake_2.f a0_0 a0_1 a0_2 a0_3 a0_4 = some r) :
  Calls Try.prog 29 #[.agg #[.int .i64 a0_0, .int .i64 a0_1, .int .i64 a0_2, .bool a0_3, .int .i64 a0_4]] w fun e w' => e = .returned (.bool r) ∧ Below w.heap.size w w' := by
 have hu42 := Try.underlying42; have HB := Zz.mk (Below.refl w.heap.size w); have H : (some (a0_4 == 0)) = some r := h; clear h; obtain rfl := Option.some.inj H; go_enter Try.func29, Try.ntmps29; go_wp2_with (first | ((with_reducible refine gate_dst (N := 1) rfl ?_); refine box_event ?hg (N := 1) ?hd (cs := #[.int .i64 a0_0, .int .i64 a0_1, .int .i64 a0_2, .bool a0_3, .int .i64 a0_4]) (t := 42) ?hr ?_; (case hd => rfl); (case hg => rfl); (case hr => first | (go_simp; done) | (go_simp; rfl)); intro gb211 hg w2 hbox hb; have n0_ := Zz.mk (bwP (by repeat (first | (with_reducible first | exact HB.out | apply bwA | apply pwN | apply bw1) | exact HB.out)) hb); have n1_ := Zz.mk (hbox); have n2_ := Zz.mk ((by rw [hg]; exact (bwZ (by repeat (first | (with_reducible first | exact HB.out | apply bwA | apply pwN | apply bw1) | exact HB.out))) : w.heap.size ≤ gb211)); have n3_ := Zz.mk ((by rw [hg]; exact (bwZ (by repeat (first | (with_reducible first | exact HB.out | apply bwA | apply pwN | apply bw1) | exact HB.out))) : w.heap.size ≤ gb211)); clear HB; have HB := n0_; have BK211 := n1_; have GW211 := n2_; have GE211 := n3_; clear n0_ n1_ n2_ n3_; clear hb hbox hg; have hcz3_0 : w2.cell? ⟨gb211, 0, none⟩ = some (.int .i64 a0_0) := (bkC BK211.out 0).trans rfl; have hcz3_1 : w2.cell? ⟨gb211, 1, none⟩ = some (.int .i64 a0_1) := (bkC BK211.out 1).trans rfl; have hcz3_2 : w2.cell? ⟨gb211, 2, none⟩ = some (.int .i64 a0_2) := (bkC BK211.out 2).trans rfl; have hcz3_3 : w2.cell? ⟨gb211, 3, none⟩ = some (.bool a0_3) := (bkC BK211.out 3).trans rfl; have hcz3_4 : w2.cell? ⟨gb211, 4, none⟩ = some (.int .i64 a0_4) := (bkC BK211.out 4).trans rfl; have hfz3_0 := bkF BK211.out 0; have hfz3_1 := bkF BK211.out 1; have hfz3_2 := bkF BK211.out 2; have hfz3_3 := bkF BK211.out 3; have hfz3_4 := bkF BK211.out 4))
 go_ret
 exact ⟨by first | rfl | (simp [eN, eS] <;> rfl) | (simp [*, eN, eS] <;> rfl), by repeat (first | (with_reducible first | exact HB.out | apply bwA | apply pwN | apply bw1 | refine bwS ?_ GE211.out) | exact HB.out)⟩

/-! ### impl_Item_D: function 49 -/
def impl_Item_D.l0 : Nat → List (S42) → Int → Int → Option (Int)
 | 0, _, _, _ => none
 | k + 1, x0, x7, x8 => if x8 < x7 then (if 0 ≤ x8 then (if x8 < (x0.length : Int) then ((impl_CastTake_2.f ((rd_T42 x0 x8).f0.f0) ((rd_T42 x0 x8).f0.f1) ((rd_T42 x0 x8).f0.f2) ((rd_T42 x0 x8).f0.f3) ((rd_T42 x0 x8).f1)).bind fun t213 => (if t213 = true then (some x8) else (impl_Item_D.l0 k x0 x7 (wrap64 (x8 + 1))))) else (none)) else (none)) else (some (-1))
def impl_Item_D.f (k : Nat) (l0 : List (S42)) (a1 : Unit) : Option (Int) := impl_Item_D.l0 k l0 (l0.length : Int) 0
theorem impl_Item_D.mono_l : ∀ k, (∀ y0 y1 y2, LeO (impl_Item_D.l0 k y0 y1 y2) (impl_Item_D.l0 (k + 1) y0 y1 y2))
 | 0 => fun _ _ _ r h => by simp [impl_Item_D.l0] at h
 | k + 1 => by
  have ih0 := impl_Item_D.mono_l k
  ·intro y0 y1 y2
   unfold impl_Item_D.l0; repeat' first
   | (with_reducible exact ih0 _ _ _)
   | (with_reducible exact LeO.refl _)
   | (with_reducible exact LeO.none _)
   | (with_reducible refine LeO.ite ?_ ?_)
   | (with_reducible refine LeO.bind ?_ (fun _ => ?_))
   | exact ih0 _ _ _
   | exact LeO.none _
   | refine LeO.ite ?_ ?_
   | refine LeO.bind ?_ (fun _ => ?_)
theorem impl_Item_D.mono : ∀ a0 a1 k, LeO (impl_Item_D.f k a0 a1) (impl_Item_D.f (k + 1) a0 a1) := by
 intro a0 a1 k; have ih0 := impl_Item_D.mono_l k; unfold impl_Item_D.f
 repeat' first
   | (with_reducible exact ih0 _ _ _)
   | (with_reducible exact LeO.refl _)
   | (with_reducible exact LeO.none _)
   | (with_reducible refine LeO.ite ?_ ?_)
   | (with_reducible refine LeO.bind ?_ (fun _ => ?_))
   | exact ih0 _ _ _
   | exact LeO.none _
   | refine LeO.ite ?_ ?_
   | refine LeO.bind ?_ (fun _ => ?_)
set_option maxHeartbeats 8000000 in
set_option maxRecDepth 100000 in
theorem impl_Item_D.calls (k : Nat) (A0 : Option Addr) (c0 : Nat) (l0 : List (S42)) (a1 : Unit) (r : Int) (w : World) (hr0 : Kd.C k42 w A0 l0.length l0) (hc0 : l0.length ≤ c0) (h : impl_Item_D.f k l0 a1 = some r) :
  Calls Try.prog 49 #[.slice A0 l0.length c0, .func (.func 29) #[] #[]] w fun e w' => e = .returned (.int .i64 r) ∧ Below w.heap.size w w' := by
 have hu42 := Try.underlying42; have HR0 := Zz.mk hr0; have HC0 := Zz.mk hc0; clear hr0 hc0; have HB := Zz.mk (Below.refl w.heap.size w); have H : (impl_Item_D.l0 k l0 (l0.length : Int) 0) = some r := h; clear h; have H' := Zz.mk H; clear H; go_enter Try.func49, Try.ntmps49; go_wp2
 go_loopg [8] k (fun kq v8 w' => ∃ (x8_1 : Int), v8 = .int .i64 x8_1 ∧ Zz (impl_Item_D.l0 kq l0 (l0.length : Int) x8_1 = some r) ∧ Zz (kq ≤ k) ∧ Zz (Below w.heap.size w w'))
 case atStart => exact ⟨(0), (by first | rfl | (simp; done) | (simp [*]; done)), H', ⟨Nat.le_refl _⟩, ⟨by repeat (first | (with_reducible first | exact HB.out | apply bwA | apply pwN | apply bw1) | exact HB.out)⟩⟩
 case round =>
  clear H'; try clear p2
  obtain ⟨x8_1, rfl, HA, HK1, HB⟩ := hrel; cases gk with
  | zero => exact absurd HA.out (by simp [impl_Item_D.l0])
  | succ k1 =>
   have H := HA.out; clear HA; simp only [impl_Item_D.l0] at H; by_cases c3 : x8_1 < (l0.length : Int)
   ·rw [if_pos c3] at H
    have c3b0 : decide (x8_1 < (l0.length : Int)) = true := decide_eq_true c3; clear c3; by_cases c4 : 0 ≤ x8_1
    ·rw [if_pos c4] at H
     have c4b0 : decide (0 ≤ x8_1) = true := decide_eq_true c4; clear c4; by_cases c5 : x8_1 < (l0.length : Int)
     ·rw [if_pos c5] at H
      have c5b0 : decide (x8_1 < (l0.length : Int)) = true := decide_eq_true c5; clear c5; replace H := Option.bind_eq_some_iff.mp H; obtain ⟨t213, A60, H⟩ := H; replace H : (if t213 = true then (some x8_1) else (impl_Item_D.l0 k1 l0 (l0.length : Int) (wrap64 (x8_1 + 1)))) = some r := H; have A6 := Zz.mk A60; clear A60; by_cases c7 : t213 = true
      ·subst c7
       have H1 : (some x8_1) = some r := by rw [if_pos rfl] at H; exact H
       clear H; have H := H1; clear H1; obtain rfl := Option.some.inj H; have p212 : 0 ≤ (x8_1 : Int) := of_decide_eq_true (by first | (with_reducible assumption) | assumption); have q212 : x8_1 < (l0.length : Int) := of_decide_eq_true (by first | (with_reducible assumption) | assumption); obtain ⟨ad212, e212, hx212_0, hx212_1, hx212_2, hx212_3, hx212_4⟩ := at_T42 HR0.out x8_1 p212 q212; cases e212
       replace hx212_0 := (bc HB.out hx212_0 :)
       replace hx212_1 := (bc HB.out hx212_1 :)
       replace hx212_2 := (bc HB.out hx212_2 :)
       replace hx212_3 := (bc HB.out hx212_3 :)
       replace hx212_4 := (bc HB.out hx212_4 :)
       replace p212 := eq_true p212; replace q212 := eq_true q212; go_wp2_with (first | ((with_reducible show Calls Try.prog 29 _ _ _); (with_reducible refine (impl_CastTake_2.calls ((rd_T42 l0 x8_1).f0.f0) ((rd_T42 l0 x8_1).f0.f1) ((rd_T42 l0 x8_1).f0.f2) ((rd_T42 l0 x8_1).f0.f3) ((rd_T42 l0 x8_1).f1) true _ A6.out).mono ?_); rintro e w8 ⟨rfl, hb⟩; have n0_ := Zz.mk (bwP (by repeat (first | (with_reducible first | exact HB.out | apply bwA | apply pwN | apply bw1) | exact HB.out)) hb); clear HB; have HB := n0_; clear n0_; (try clear hb); (try clear A6)))
       go_ret
       exact ⟨by first | rfl | (simp [eN, eS] <;> rfl) | (simp [*, eN, eS] <;> rfl), by repeat (first | (with_reducible first | exact HB.out | apply bwA | apply pwN | apply bw1) | exact HB.out)⟩
      ·replace c7 := Bool.eq_false_iff.mpr c7
       subst c7; have H1 : (impl_Item_D.l0 k1 l0 (l0.length : Int) (wrap64 (x8_1 + 1))) = some r := by rw [if_neg (show ¬ (false = true) by decide)] at H; exact H
       clear H; have H := H1; clear H1; have H' := Zz.mk H; clear H; have p212 : 0 ≤ (x8_1 : Int) := of_decide_eq_true (by first | (with_reducible assumption) | assumption); have q212 : x8_1 < (l0.length : Int) := of_decide_eq_true (by first | (with_reducible assumption) | assumption); obtain ⟨ad212, e212, hx212_0, hx212_1, hx212_2, hx212_3, hx212_4⟩ := at_T42 HR0.out x8_1 p212 q212; cases e212
       replace hx212_0 := (bc HB.out hx212_0 :)
       replace hx212_1 := (bc HB.out hx212_1 :)
       replace hx212_2 := (bc HB.out hx212_2 :)
       replace hx212_3 := (bc HB.out hx212_3 :)
       replace hx212_4 := (bc HB.out hx212_4 :)
       replace p212 := eq_true p212; replace q212 := eq_true q212; go_wp2_with (first | ((with_reducible show Calls Try.prog 29 _ _ _); (with_reducible refine (impl_CastTake_2.calls ((rd_T42 l0 x8_1).f0.f0) ((rd_T42 l0 x8_1).f0.f1) ((rd_T42 l0 x8_1).f0.f2) ((rd_T42 l0 x8_1).f0.f3) ((rd_T42 l0 x8_1).f1) false _ A6.out).mono ?_); rintro e w9 ⟨rfl, hb⟩; have n0_ := Zz.mk (bwP (by repeat (first | (with_reducible first | exact HB.out | apply bwA | apply pwN | apply bw1) | exact HB.out)) hb); clear HB; have HB := n0_; clear n0_; (try clear hb); (try clear A6)))
       go_roundg k1
       case measure => have := HK1.out; omega
       case rel => exact ⟨(wrap64 (x8_1 + 1)), (by first | rfl | (simp; done) | (simp [*]; done)), H', ⟨by have := HK1.out; omega⟩, ⟨by repeat (first | (with_reducible first | exact HB.out | apply bwA | apply pwN | apply bw1) | exact HB.out)⟩⟩
     ·rw [if_neg c5] at H; exact absurd H (by simp)
    ·rw [if_neg c4] at H; exact absurd H (by simp)
   ·rw [if_neg c3] at H
    have c3b0 : decide (x8_1 < (l0.length : Int)) = false := decide_eq_false c3; clear c3; obtain rfl := Option.some.inj H; go_wp2
    go_ret
    exact ⟨by first | rfl | (simp [eN, eS] <;> rfl) | (simp [*, eN, eS] <;> rfl), by repeat (first | (with_reducible first | exact HB.out | apply bwA | apply pwN | apply bw1) | exact HB.out)⟩

/-! ### impl_Item_28: function 28 -/
def impl_Item_28.l0 : Nat → List (S42) → Int → Int → Option ((List (S42)))
 | 0, _, _, _ => none
 | k + 1, x0, x5, x6 => if x6 < (x0.length : Int) then (if 0 ≤ x6 then ((impl_CastTake_2.f ((rd_T42 x0 x6).f0.f0) ((rd_T42 x0 x6).f0.f1) ((rd_T42 x0 x6).f0.f2) ((rd_T42 x0 x6).f0.f3) ((rd_T42 x0 x6).f1)).bind fun t217 => (if t217 = true then (impl_Item_28.l0 k x0 x5 (wrap64 (x6 + 1))) else (if 0 ≤ x5 then (if x5 < (x0.length : Int) then (impl_Item_28.l0 k (x0.set (x5 : Int).toNat (⟨(⟨(rd_T42 x0 x6).f0.f0, (rd_T42 x0 x6).f0.f1, (rd_T42 x0 x6).f0.f2, (rd_T42 x0 x6).f0.f3⟩ : S40), (rd_T42 x0 x6).f1⟩ : S42)) (wrap64 (x5 + 1)) (wrap64 (x6 + 1))) else (none)) else (none)))) else (none)) else (if x5 < (x0.length : Int) then (if 0 ≤ x5 then (if x5 ≤ (x0.length : Int) then (some (x0.take (x5 : Int).toNat)) else (none)) else (none)) else (none))
def impl_Item_28.f (k : Nat) (l0 : List (S42)) (a1 : Unit) : Option ((List (S42))) := (impl_Item_D.f k l0 a1).bind fun t214 => (if t214 = (-1) then (some l0) else (impl_Item_28.l0 k l0 t214 (wrap64 (t214 + 1))))
theorem impl_Item_28.mono_l : ∀ k, (∀ y0 y1 y2, LeO (impl_Item_28.l0 k y0 y1 y2) (impl_Item_28.l0 (k + 1) y0 y1 y2))
 | 0 => fun _ _ _ r h => by simp [impl_Item_28.l0] at h
 | k + 1 => by
  have ih0 := impl_Item_28.mono_l k
  ·intro y0 y1 y2
   unfold impl_Item_28.l0; repeat' first
   | (with_reducible exact ih0 _ _ _)
   | (with_reducible exact impl_Item_D.mono _ _ _)
   | (with_reducible exact LeO.refl _)
   | (with_reducible exact LeO.none _)
   | (with_reducible refine LeO.ite ?_ ?_)
   | (with_reducible refine LeO.bind ?_ (fun _ => ?_))
   | exact ih0 _ _ _
   | exact impl_Item_D.mono _ _ _
   | exact LeO.none _
   | refine LeO.ite ?_ ?_
   | refine LeO.bind ?_ (fun _ => ?_)
theorem impl_Item_28.mono : ∀ a0 a1 k, LeO (impl_Item_28.f k a0 a1) (impl_Item_28.f (k + 1) a0 a1) := by
 intro a0 a1 k; have ih0 := impl_Item_28.mono_l k; unfold impl_Item_28.f
 repeat' first
   | (with_reducible exact ih0 _ _ _)
   | (with_reducible exact impl_Item_D.mono _ _ _)
   | (with_reducible exact LeO.refl _)
   | (with_reducible exact LeO.none _)
   | (with_reducible refine LeO.ite ?_ ?_)
   | (with_reducible refine LeO.bind ?_ (fun _ => ?_))
   | exact ih0 _ _ _
   | exact impl_Item_D.mono _ _ _
   | exact LeO.none _
   | refine LeO.ite ?_ ?_
   | refine LeO.bind ?_ (fun _ => ?_)
theorem clear_tail {α : Type} (d : Kd α) {P : Program} {W : World} {base : Nat} (t e : TypeId) (z : Value) (ht : P.underlying t = some (.slice e)) (hz : ∀ w, (zeroValue e).run P w = .ok z w) (hzs : z.cells.size = d.sz) (h1 : ∀ q ∈ z.cells.toList, q.oneCell' = true)
  {A : Option Addr} {n c : Nat} {xs : List α} {ok : Nat → Prop} (HO : d.R e W base ok (.slice A n c) xs) (m : Nat) (hm : m < n) :
  ∃ w1, (∀ ty, (Builtin.clear_ #[t] ty #[.slice (if c = m then A else A.map (·.add (m * d.sz))) (n - m) (c - m)]).run P W = .ok (.tuple #[]) w1) ∧ d.R e w1 base ok (.slice A m c) (xs.take m) ∧ W.grownBy w1 (Value.slice A n c).ownBlock := by
 obtain ⟨hn, hnc, _⟩ := Kd.R_reads' HO; have hfull := HO; obtain ⟨_, _, hof, _⟩ := hfull; obtain ⟨h0, inner, ho, hr⟩ := Kd.R_take (m := m) HO (by omega); rcases ho.2 with ⟨hv, hm0⟩ | ⟨g, cap, cur, hv, hb, hh, hmc, hcm, hcs, htk⟩
 ·injection hv with _ _ hc
  omega
 injection hv with ha _ hc
 subst ha; subst hc; have hlm : (xs.take m).length = m := by rw [List.length_take]; omega
 rw [hlm] at hmc htk; have hcm2 : ¬ c = m := by omega
 have hadd : (some (⟨g, 0, none⟩ : Addr)).map (·.add (m * d.sz)) = some ⟨g, m * d.sz, none⟩ := by
  simp only [Option.map_some, Addr.add]; split
  ·next h => rw [h]
  ·simp
 obtain ⟨zs, hzz⟩ : ∃ zs, (Builtin.zeroCells z.cells (n - m)).toList = zs := ⟨_, rfl⟩
 have hzl : zs.length = (n - m) * d.sz := by rw [← hzz]; simp [Builtin.zeroCells, hzs]
 have hzo : ∀ q ∈ zs, q.oneCell' = true := by
  intro q hq; rw [← hzz] at hq; simp only [Builtin.zeroCells, Array.toList_map, List.mem_map, Array.toList_range, List.mem_range] at hq; obtain ⟨i, hi, rfl⟩ := hq
  have hpos : 0 < z.cells.size := by
   rcases Nat.eq_zero_or_pos z.cells.size with h | h
   ·rw [h, Nat.mul_zero] at hi; omega
   ·exact h
  have hlt := Nat.mod_lt i hpos; rw [getElem!_pos z.cells _ hlt]; exact h1 _ (by simp)
 have hsum : m * d.sz + (n - m) * d.sz = n * d.sz := by rw [← Nat.add_mul]; congr 1; omega
 have hle : n * d.sz ≤ c * d.sz := Nat.mul_le_mul_right _ (by omega); have hfit : m * d.sz + zs.length ≤ cur.size := by omega
 obtain ⟨cur', h3, h4, h5⟩ := setCells_row zs (m * d.sz) W cur hh hfit; obtain ⟨s1, s2, s3, s4⟩ := setCells_same g zs (m * d.sz) W; have hfar : ∀ k, k ≠ g → (W.setCells g (m * d.sz) zs).heap[k]? = W.heap[k]? := fun k hk => setCells_far zs _ k hk; refine ⟨W.setCells g (m * d.sz) zs, fun ty => ?_, ⟨?_, inner, ⟨ho.1, .inr ⟨g, c, cur', by rw [hlm], hb, h3, by rw [hlm]; exact hmc, hcm, by rw [h4, hcs], ?_⟩⟩, ?_⟩, ⟨s1, s2, s3, by rw [s4]; exact Nat.le_refl _, fun k _ hk => hfar k (fun he => hk (by rw [he]; rfl))⟩⟩
 ·rw [if_neg hcm2, hadd]
  have hst := run_storeCells_cells (P := P) g (m * d.sz) zs 0 W (fun j hj => by rw [cell_of_row W g _ cur e (0, 0) hh]; simp; omega) (fun j _ => bkF hh _) hzo; simp only [Nat.add_zero] at hst; obtain ⟨k, hk⟩ : ∃ k, n - m = k + 1 := ⟨n - m - 1, by omega⟩
  rw [hk] at hzz ⊢; simp [Builtin.clear_, run_underlying ht, hz, hzz, hst]
 ·exact h0
 ·rw [hlm, h5, List.append_assoc, List.take_append_of_le_length (by rw [List.length_take, Array.length_toList]; omega), List.take_take, Nat.min_self, htk]
 ·exact hr.imp_ (fun _ _ hp => d.M_move (fun k hk => hfar k (fun he => hk.2 (by rw [he]; rfl))) hp)
set_option maxHeartbeats 8000000 in
set_option maxRecDepth 100000 in
theorem impl_Item_28.calls (k : Nat) (P0_ : Nat → Prop) (u9000_ : Value) (l0 : List (S42)) (a1 : Unit) (r : List (S42)) (w0 w : World) (hB : Below w0.heap.size w0 w) (ho0 : Kd.R k42 42 w w0.heap.size P0_ u9000_ l0) (h : impl_Item_28.f k l0 a1 = some r) :
  Calls Try.prog 28 #[u9000_, .func (.func 29) #[] #[]] w fun e w' => ∃ v0_ : Value, e = .returned (v0_) ∧ Kd.R k42 42 w' w0.heap.size (fun k_ => (P0_ k_ ∨ w.heap.size ≤ k_)) v0_ r ∧ Below w0.heap.size w0 w' ∧ Kept w w' (fun k_ => P0_ k_) := by
 have hu42 := Try.underlying42; have HO0 := Zz.mk (show Kd.R k42 42 w w0.heap.size (fun k_ => (P0_ k_ ∨ w.heap.size ≤ k_)) u9000_ l0 from Kd.R_mono ho0 (fun k_ hk => (.inl hk))); have HK := Zz.mk (Kept.refl w (fun k_ => P0_ k_)); have HW0 := Zz.mk hB.size; have HB := Zz.mk hB; clear hB; have H : ((impl_Item_D.f k l0 a1).bind fun t214 => (if t214 = (-1) then (some l0) else (impl_Item_28.l0 k l0 t214 (wrap64 (t214 + 1))))) = some r := h; clear h; replace H := Option.bind_eq_some_iff.mp H; obtain ⟨t214, A30, H⟩ := H; replace H : (if t214 = (-1) then (some l0) else (impl_Item_28.l0 k l0 t214 (wrap64 (t214 + 1)))) = some r := H; have A3 := Zz.mk A30; clear A30; by_cases c4 : t214 = (-1)
 ·rw [if_pos c4] at H
  have c4b0 : (t214 == (-1)) = true := beq_iff_eq.mpr c4; have c4b1 : (t214 != (-1)) = false := bne_eq_false_iff_eq.mpr c4; clear c4; obtain rfl := Option.some.inj H; obtain ⟨Ao5, co5, eo5⟩ := Kd.R_slice HO0.out; subst eo5; go_enter Try.func28, Try.ntmps28; go_wp2_with (first | ((with_reducible refine gate_callee (f := 49) rfl ?_); refine goesL_ (some 10) rfl rfl Try.func49 (by kernel_rfl) rfl #[.slice Ao5 l0.length co5, .func (.func 29) #[] #[]] rfl (by (try simp only [List.map_toArray, List.map_cons, List.map_nil]); first | done | rfl | (simp only [List.length_drop, List.length_take]; rfl)) ?_; (with_reducible refine (impl_Item_D.calls k _ _ l0 a1 t214 _ ?side1 ?side2 A3.out).mono ?_); (case side1 => repeat (first | exact (Kd.R_reads' HO0.out).2.2 | (with_reducible refine Kd.CA ?_ _) | (with_reducible refine Kd.CN ?_ _) | (with_reducible refine Kd.CD ?_))); (case side2 => exact (Kd.R_reads' HO0.out).2.1); rintro e w6 ⟨rfl, hb⟩; refine ⟨_, rfl, ?_⟩; have n0_ := Zz.mk (Kd.R_below (by (with_reducible repeat (first | apply Kd.RA | apply Kd.RN | apply Kd.RD)); exact HO0.out) hb); have n1_ := Zz.mk (Kept.below (S := (fun k_ => P0_ k_)) (by repeat (first | (with_reducible first | exact HK.out | apply Kept.alloc | apply Kept.drewN | apply Kept.drew) | exact HK.out)) hb); have n2_ := Zz.mk (bwP (by repeat (first | (with_reducible first | exact HB.out | apply bwA | apply pwN | apply bw1) | exact HB.out)) hb); clear HO0; clear HK; clear HB; have HO0 := n0_; have HK := n1_; have HB := n2_; clear n0_ n1_ n2_; (try clear hb); (try clear A3)))
  go_ret
  exact ⟨_, by first | rfl | (simp [eN, eS] <;> rfl) | (simp [*, eN, eS] <;> rfl), by (with_reducible repeat (first | apply Kd.RA | apply Kd.RN | apply Kd.RD)); exact HO0.out, by repeat (first | (with_reducible first | exact HB.out | apply bwA | apply pwN | apply bw1) | exact HB.out), by repeat (first | (with_reducible first | exact HK.out | apply Kept.alloc | apply Kept.drewN | apply Kept.drew) | exact HK.out)⟩
 ·rw [if_neg c4] at H
  have c4b0 : (t214 == (-1)) = false := beq_eq_false_iff_ne.mpr c4; have c4b1 : (t214 != (-1)) = true := bne_iff_ne.mpr c4; have H' := Zz.mk H; clear H; obtain ⟨Ao7, co7, eo7⟩ := Kd.R_slice HO0.out; subst eo7; go_enter Try.func28, Try.ntmps28; go_wp2_with (first | ((with_reducible refine gate_callee (f := 49) rfl ?_); refine goesL_ (some 10) rfl rfl Try.func49 (by kernel_rfl) rfl #[.slice Ao7 l0.length co7, .func (.func 29) #[] #[]] rfl (by (try simp only [List.map_toArray, List.map_cons, List.map_nil]); first | done | rfl | (simp only [List.length_drop, List.length_take]; rfl)) ?_; (with_reducible refine (impl_Item_D.calls k _ _ l0 a1 t214 _ ?side1 ?side2 A3.out).mono ?_); (case side1 => repeat (first | exact (Kd.R_reads' HO0.out).2.2 | (with_reducible refine Kd.CA ?_ _) | (with_reducible refine Kd.CN ?_ _) | (with_reducible refine Kd.CD ?_))); (case side2 => exact (Kd.R_reads' HO0.out).2.1); rintro e w8 ⟨rfl, hb⟩; refine ⟨_, rfl, ?_⟩; have n0_ := Zz.mk (Kd.R_below (by (with_reducible repeat (first | apply Kd.RA | apply Kd.RN | apply Kd.RD)); exact HO0.out) hb); have n1_ := Zz.mk (Kept.below (S := (fun k_ => P0_ k_)) (by repeat (first | (with_reducible first | exact HK.out | apply Kept.alloc | apply Kept.drewN | apply Kept.drew) | exact HK.out)) hb); have n2_ := Zz.mk (bwP (by repeat (first | (with_reducible first | exact HB.out | apply bwA | apply pwN | apply bw1) | exact HB.out)) hb); clear HO0; clear HK; clear HB; have HO0 := n0_; have HK := n1_; have HB := n2_; clear n0_ n1_ n2_; (try clear hb); (try clear A3)))
  go_loopg [5, 6] k (fun kq v5 v6 w' => ∃ (x0_1 : List (S42)) (x5_1 : Int) (x6_1 : Int), v5 = .int .i64 x5_1 ∧ v6 = .int .i64 x6_1 ∧ Zz (impl_Item_28.l0 kq x0_1 x5_1 x6_1 = some r) ∧ Zz (kq ≤ k) ∧ Zz (Kd.R k42 42 w' w0.heap.size (fun k_ => (P0_ k_ ∨ w.heap.size ≤ k_)) (.slice Ao7 l0.length co7) x0_1) ∧ Zz (Kept w w' (fun k_ => P0_ k_)) ∧ Zz (Below w0.heap.size w0 w'))
  case atStart => exact ⟨(l0), (t214), (wrap64 (t214 + 1)), (by first | rfl | (simp; done) | (simp [*]; done)), (by first | rfl | (simp; done) | (simp [*]; done)), H', ⟨Nat.le_refl _⟩, ⟨by (with_reducible repeat (first | apply Kd.RA | apply Kd.RN | apply Kd.RD)); exact HO0.out⟩, ⟨by repeat (first | (with_reducible first | exact HK.out | apply Kept.alloc | apply Kept.drewN | apply Kept.drew) | exact HK.out)⟩, ⟨by repeat (first | (with_reducible first | exact HB.out | apply bwA | apply pwN | apply bw1) | exact HB.out)⟩⟩
  case round =>
   clear H'; try clear c2
   try clear p2
   try clear c4
   try clear c4b0
   try clear c4b1
   try clear p6
   try clear c7
   obtain ⟨x0_1, x5_1, x6_1, rfl, rfl, HA, HK1, HO_0, HK, HB⟩ := hrel; have hl0_1 := (Kd.R_reads' HO_0.out).1; rw [hl0_1] at HO_0; (try simp only [hl0_1])
   cases gk with
   | zero => exact absurd HA.out (by simp [impl_Item_28.l0])
   | succ k1 =>
    have H := HA.out; clear HA; simp only [impl_Item_28.l0] at H; by_cases c9 : x6_1 < (x0_1.length : Int)
    ·rw [if_pos c9] at H
     have c9b0 : decide (x6_1 < (x0_1.length : Int)) = true := decide_eq_true c9; clear c9; by_cases c10 : 0 ≤ x6_1
     ·rw [if_pos c10] at H
      have c10b0 : decide (0 ≤ x6_1) = true := decide_eq_true c10; clear c10; replace H := Option.bind_eq_some_iff.mp H; obtain ⟨t217, A110, H⟩ := H; replace H : (if t217 = true then (impl_Item_28.l0 k1 x0_1 x5_1 (wrap64 (x6_1 + 1))) else (if 0 ≤ x5_1 then (if x5_1 < (x0_1.length : Int) then (impl_Item_28.l0 k1 (x0_1.set (x5_1 : Int).toNat (⟨(⟨(rd_T42 x0_1 x6_1).f0.f0, (rd_T42 x0_1 x6_1).f0.f1, (rd_T42 x0_1 x6_1).f0.f2, (rd_T42 x0_1 x6_1).f0.f3⟩ : S40), (rd_T42 x0_1 x6_1).f1⟩ : S42)) (wrap64 (x5_1 + 1)) (wrap64 (x6_1 + 1))) else (none)) else (none))) = some r := H; have A11 := Zz.mk A110; clear A110; by_cases c12 : t217 = true
      ·subst c12
       have H1 : (impl_Item_28.l0 k1 x0_1 x5_1 (wrap64 (x6_1 + 1))) = some r := by rw [if_pos rfl] at H; exact H
       clear H; have H := H1; clear H1; have H' := Zz.mk H; clear H; have p215 : 0 ≤ (x6_1 : Int) := of_decide_eq_true (by first | (with_reducible assumption) | assumption); have q215 : x6_1 < (x0_1.length : Int) := of_decide_eq_true (by first | (with_reducible assumption) | assumption); obtain ⟨ad215, e215, hx215_0, hx215_1, hx215_2, hx215_3, hx215_4⟩ := at_T42 (Kd.R_reads' HO_0.out).2.2 x6_1 p215 q215; cases e215
       replace p215 := eq_true p215; replace q215 := eq_true q215; go_wp2_with (first | ((with_reducible refine gate_dst (N := 7) rfl ?_); refine box_event ?hg (N := 7) ?hd (cs := #[.int .i64 0, .int .i64 0, .int .i64 0, .bool false, .int .i64 0]) (t := 42) ?hr ?_; (case hd => rfl); (case hg => rfl); (case hr => first | (go_simp; done) | (go_simp; rfl)); intro gb216 hg w13 hbox hb; have n0_ := Zz.mk (Kd.R_below (Kd.R_elderB (by (with_reducible repeat (first | apply Kd.RA | apply Kd.RN | apply Kd.RD)); exact HO_0.out) gb216 (Nat.le_of_eq hg.symm)) hb); have n1_ := Zz.mk (Kept.below (S := (fun k_ => P0_ k_)) (by repeat (first | (with_reducible first | exact HK.out | apply Kept.alloc | apply Kept.drewN | apply Kept.drew) | exact HK.out)) hb); have n2_ := Zz.mk (bwP (by repeat (first | (with_reducible first | exact HB.out | apply bwA | apply pwN | apply bw1) | exact HB.out)) hb); have n3_ := Zz.mk (hbox); have n4_ := Zz.mk ((by rw [hg]; exact (by first | exact HK.out.1 | exact (show Kept w _ (fun k_ => P0_ k_) from by repeat (first | (with_reducible first | exact HK.out | apply Kept.alloc | apply Kept.drewN | apply Kept.drew) | exact HK.out)).1) : w.heap.size ≤ gb216)); have n5_ := Zz.mk ((by rw [hg]; exact (bwZ (by repeat (first | (with_reducible first | exact HB.out | apply bwA | apply pwN | apply bw1) | exact HB.out))) : w0.heap.size ≤ gb216)); clear HO_0; clear HK; clear HB; have HO_0 := n0_; have HK := n1_; have HB := n2_; have BK216 := n3_; have GW216 := n4_; have GE216 := n5_; clear n0_ n1_ n2_ n3_ n4_ n5_; clear hb hbox hg; have hcz14_0 : w13.cell? ⟨gb216, 0, none⟩ = some (.int .i64 0) := (bkC BK216.out 0).trans rfl; have hcz14_1 : w13.cell? ⟨gb216, 1, none⟩ = some (.int .i64 0) := (bkC BK216.out 1).trans rfl; have hcz14_2 : w13.cell? ⟨gb216, 2, none⟩ = some (.int .i64 0) := (bkC BK216.out 2).trans rfl; have hcz14_3 : w13.cell? ⟨gb216, 3, none⟩ = some (.bool false) := (bkC BK216.out 3).trans rfl; have hcz14_4 : w13.cell? ⟨gb216, 4, none⟩ = some (.int .i64 0) := (bkC BK216.out 4).trans rfl; have hfz14_0 := bkF BK216.out 0; have hfz14_1 := bkF BK216.out 1; have hfz14_2 := bkF BK216.out 2; have hfz14_3 := bkF BK216.out 3; have hfz14_4 := bkF BK216.out 4) | ((with_reducible show Calls Try.prog 29 _ _ _); (with_reducible refine (impl_CastTake_2.calls ((rd_T42 x0_1 x6_1).f0.f0) ((rd_T42 x0_1 x6_1).f0.f1) ((rd_T42 x0_1 x6_1).f0.f2) ((rd_T42 x0_1 x6_1).f0.f3) ((rd_T42 x0_1 x6_1).f1) true _ A11.out).mono ?_); rintro e w15 ⟨rfl, hb⟩; have n0_ := Zz.mk (Kd.R_below (by (with_reducible repeat (first | apply Kd.RA | apply Kd.RN | apply Kd.RD)); exact (Kd.R_mono (Kd.R_far (p := ⟨gb216, 4, none⟩) (Kd.R_far (p := ⟨gb216, 3, none⟩) (Kd.R_far (p := ⟨gb216, 2, none⟩) (Kd.R_far (p := ⟨gb216, 1, none⟩) (Kd.R_far (p := ⟨gb216, 0, none⟩) (Kd.R_mono HO_0.out (fun k_ hk => (⟨hk, hk.2⟩ : _ ∧ k_ ≠ gb216))) (fun _ hk => hk.2) (.int .i64 ((rd_T42 x0_1 x6_1).f0.f0))) (fun _ hk => hk.2) (.int .i64 ((rd_T42 x0_1 x6_1).f0.f1))) (fun _ hk => hk.2) (.int .i64 ((rd_T42 x0_1 x6_1).f0.f2))) (fun _ hk => hk.2) (.bool ((rd_T42 x0_1 x6_1).f0.f3))) (fun _ hk => hk.2) (.int .i64 ((rd_T42 x0_1 x6_1).f1))) (fun _ h_ => h_.1))) hb); have n1_ := Zz.mk (bkB (g := gb216) (o := .cells #[.int .i64 ((rd_T42 x0_1 x6_1).f0.f0), .int .i64 ((rd_T42 x0_1 x6_1).f0.f1), .int .i64 ((rd_T42 x0_1 x6_1).f0.f2), .bool ((rd_T42 x0_1 x6_1).f0.f3), .int .i64 ((rd_T42 x0_1 x6_1).f1)] 42 (0, 0)) (by (with_reducible repeat (first | refine bkN ?_ _ | refine bkD ?_ | refine bkA ?_ _)); refine blk_put (cs := #[.int .i64 ((rd_T42 x0_1 x6_1).f0.f0), .int .i64 ((rd_T42 x0_1 x6_1).f0.f1), .int .i64 ((rd_T42 x0_1 x6_1).f0.f2), .bool ((rd_T42 x0_1 x6_1).f0.f3), .int .i64 0]) ?_ 4 _ rfl; (with_reducible repeat (first | refine bkN ?_ _ | refine bkD ?_ | refine bkA ?_ _)); refine blk_put (cs := #[.int .i64 ((rd_T42 x0_1 x6_1).f0.f0), .int .i64 ((rd_T42 x0_1 x6_1).f0.f1), .int .i64 ((rd_T42 x0_1 x6_1).f0.f2), .bool false, .int .i64 0]) ?_ 3 _ rfl; (with_reducible repeat (first | refine bkN ?_ _ | refine bkD ?_ | refine bkA ?_ _)); refine blk_put (cs := #[.int .i64 ((rd_T42 x0_1 x6_1).f0.f0), .int .i64 ((rd_T42 x0_1 x6_1).f0.f1), .int .i64 0, .bool false, .int .i64 0]) ?_ 2 _ rfl; (with_reducible repeat (first | refine bkN ?_ _ | refine bkD ?_ | refine bkA ?_ _)); refine blk_put (cs := #[.int .i64 ((rd_T42 x0_1 x6_1).f0.f0), .int .i64 0, .int .i64 0, .bool false, .int .i64 0]) ?_ 1 _ rfl; (with_reducible repeat (first | refine bkN ?_ _ | refine bkD ?_ | refine bkA ?_ _)); refine blk_put (cs := #[.int .i64 0, .int .i64 0, .int .i64 0, .bool false, .int .i64 0]) ?_ 0 _ rfl; (with_reducible repeat (first | refine bkN ?_ _ | refine bkD ?_ | refine bkA ?_ _)); exact BK216.out) hb); have n2_ := Zz.mk (Kept.below (S := (fun k_ => P0_ k_)) (by repeat (first | (with_reducible first | exact HK.out | apply Kept.alloc | apply Kept.drewN | apply Kept.drew | refine Kept.setCell ?_ (.inr GW216.out) _) | exact HK.out)) hb); have n3_ := Zz.mk (bwP (by repeat (first | (with_reducible first | exact HB.out | apply bwA | apply pwN | apply bw1 | refine bwS ?_ GE216.out) | exact HB.out)) hb); clear HO_0; clear BK216; clear HK; clear HB; have HO_0 := n0_; have BK216 := n1_; have HK := n2_; have HB := n3_; clear n0_ n1_ n2_ n3_; (try clear hb); (try clear A11)))
       (try simp only [← hl0_1])
       go_roundg k1
       case measure => have := HK1.out; omega
       case rel => exact ⟨(x0_1), (x5_1), (wrap64 (x6_1 + 1)), (by first | rfl | (simp; done) | (simp [*]; done)), (by first | rfl | (simp; done) | (simp [*]; done)), H', ⟨by have := HK1.out; omega⟩, ⟨by (try simp only [hl0_1]); (with_reducible repeat (first | apply Kd.RA | apply Kd.RN | apply Kd.RD)); exact Kd.R_mono HO_0.out (fun _ hk => hk.1)⟩, ⟨by repeat (first | (with_reducible first | exact HK.out | apply Kept.alloc | apply Kept.drewN | apply Kept.drew | refine Kept.setCell ?_ (.inr GW216.out) _) | exact HK.out)⟩, ⟨by repeat (first | (with_reducible first | exact HB.out | apply bwA | apply pwN | apply bw1 | refine bwS ?_ GE216.out) | exact HB.out)⟩⟩
      ·replace c12 := Bool.eq_false_iff.mpr c12
       subst c12; have H1 : (if 0 ≤ x5_1 then (if x5_1 < (x0_1.length : Int) then (impl_Item_28.l0 k1 (x0_1.set (x5_1 : Int).toNat (⟨(⟨(rd_T42 x0_1 x6_1).f0.f0, (rd_T42 x0_1 x6_1).f0.f1, (rd_T42 x0_1 x6_1).f0.f2, (rd_T42 x0_1 x6_1).f0.f3⟩ : S40), (rd_T42 x0_1 x6_1).f1⟩ : S42)) (wrap64 (x5_1 + 1)) (wrap64 (x6_1 + 1))) else (none)) else (none)) = some r := by rw [if_neg (show ¬ (false = true) by decide)] at H; exact H
       clear H; have H := H1; clear H1; by_cases c16 : 0 ≤ x5_1
       ·rw [if_pos c16] at H
        have c16b0 : decide (0 ≤ x5_1) = true := decide_eq_true c16; clear c16; by_cases c17 : x5_1 < (x0_1.length : Int)
        ·rw [if_pos c17] at H
         have c17b0 : decide (x5_1 < (x0_1.length : Int)) = true := decide_eq_true c17; clear c17; obtain ⟨y218, hy218⟩ : ∃ y_ : List (S42), y_ = (x0_1.set (x5_1 : Int).toNat (⟨(⟨(rd_T42 x0_1 x6_1).f0.f0, (rd_T42 x0_1 x6_1).f0.f1, (rd_T42 x0_1 x6_1).f0.f2, (rd_T42 x0_1 x6_1).f0.f3⟩ : S40), (rd_T42 x0_1 x6_1).f1⟩ : S42)) := ⟨_, rfl⟩
         replace H : (impl_Item_28.l0 k1 y218 (wrap64 (x5_1 + 1)) (wrap64 (x6_1 + 1))) = some r := by first | (rw [hy218]; with_reducible exact H) | (replace H := (Option.bind_some _ _).symm.trans H; first | (rw [hy218]; with_reducible exact H) | with_reducible exact H) | with_reducible exact H | (rw [hy218]; exact H) | exact H
         have Ny218 := Zz.mk hy218; clear hy218; have H' := Zz.mk H; clear H; have p215 : 0 ≤ (x6_1 : Int) := of_decide_eq_true (by first | (with_reducible assumption) | assumption); have q215 : x6_1 < (x0_1.length : Int) := of_decide_eq_true (by first | (with_reducible assumption) | assumption); obtain ⟨ad215, e215, hx215_0, hx215_1, hx215_2, hx215_3, hx215_4⟩ := at_T42 (Kd.R_reads' HO_0.out).2.2 x6_1 p215 q215; cases e215
         replace p215 := eq_true p215; replace q215 := eq_true q215; go_wp2_with (first | ((with_reducible refine gate_dst (N := 7) rfl ?_); refine box_event ?hg (N := 7) ?hd (cs := #[.int .i64 0, .int .i64 0, .int .i64 0, .bool false, .int .i64 0]) (t := 42) ?hr ?_; (case hd => rfl); (case hg => rfl); (case hr => first | (go_simp; done) | (go_simp; rfl)); intro gb216 hg w19 hbox hb; have n0_ := Zz.mk (Kd.R_below (Kd.R_elderB (by (with_reducible repeat (first | apply Kd.RA | apply Kd.RN | apply Kd.RD)); exact HO_0.out) gb216 (Nat.le_of_eq hg.symm)) hb); have n1_ := Zz.mk (Kept.below (S := (fun k_ => P0_ k_)) (by repeat (first | (with_reducible first | exact HK.out | apply Kept.alloc | apply Kept.drewN | apply Kept.drew) | exact HK.out)) hb); have n2_ := Zz.mk (bwP (by repeat (first | (with_reducible first | exact HB.out | apply bwA | apply pwN | apply bw1) | exact HB.out)) hb); have n3_ := Zz.mk (hbox); have n4_ := Zz.mk ((by rw [hg]; exact (by first | exact HK.out.1 | exact (show Kept w _ (fun k_ => P0_ k_) from by repeat (first | (with_reducible first | exact HK.out | apply Kept.alloc | apply Kept.drewN | apply Kept.drew) | exact HK.out)).1) : w.heap.size ≤ gb216)); have n5_ := Zz.mk ((by rw [hg]; exact (bwZ (by repeat (first | (with_reducible first | exact HB.out | apply bwA | apply pwN | apply bw1) | exact HB.out))) : w0.heap.size ≤ gb216)); clear HO_0; clear HK; clear HB; have HO_0 := n0_; have HK := n1_; have HB := n2_; have BK216 := n3_; have GW216 := n4_; have GE216 := n5_; clear n0_ n1_ n2_ n3_ n4_ n5_; clear hb hbox hg; have hcz20_0 : w19.cell? ⟨gb216, 0, none⟩ = some (.int .i64 0) := (bkC BK216.out 0).trans rfl; have hcz20_1 : w19.cell? ⟨gb216, 1, none⟩ = some (.int .i64 0) := (bkC BK216.out 1).trans rfl; have hcz20_2 : w19.cell? ⟨gb216, 2, none⟩ = some (.int .i64 0) := (bkC BK216.out 2).trans rfl; have hcz20_3 : w19.cell? ⟨gb216, 3, none⟩ = some (.bool false) := (bkC BK216.out 3).trans rfl; have hcz20_4 : w19.cell? ⟨gb216, 4, none⟩ = some (.int .i64 0) := (bkC BK216.out 4).trans rfl; have hfz20_0 := bkF BK216.out 0; have hfz20_1 := bkF BK216.out 1; have hfz20_2 := bkF BK216.out 2; have hfz20_3 := bkF BK216.out 3; have hfz20_4 := bkF BK216.out 4) | ((with_reducible show Calls Try.prog 29 _ _ _); (with_reducible refine (impl_CastTake_2.calls ((rd_T42 x0_1 x6_1).f0.f0) ((rd_T42 x0_1 x6_1).f0.f1) ((rd_T42 x0_1 x6_1).f0.f2) ((rd_T42 x0_1 x6_1).f0.f3) ((rd_T42 x0_1 x6_1).f1) false _ A11.out).mono ?_); rintro e w21 ⟨rfl, hb⟩; have n0_ := Zz.mk (Kd.R_below (by (with_reducible repeat (first | apply Kd.RA | apply Kd.RN | apply Kd.RD)); exact (Kd.R_mono (Kd.R_far (p := ⟨gb216, 4, none⟩) (Kd.R_far (p := ⟨gb216, 3, none⟩) (Kd.R_far (p := ⟨gb216, 2, none⟩) (Kd.R_far (p := ⟨gb216, 1, none⟩) (Kd.R_far (p := ⟨gb216, 0, none⟩) (Kd.R_mono HO_0.out (fun k_ hk => (⟨hk, hk.2⟩ : _ ∧ k_ ≠ gb216))) (fun _ hk => hk.2) (.int .i64 ((rd_T42 x0_1 x6_1).f0.f0))) (fun _ hk => hk.2) (.int .i64 ((rd_T42 x0_1 x6_1).f0.f1))) (fun _ hk => hk.2) (.int .i64 ((rd_T42 x0_1 x6_1).f0.f2))) (fun _ hk => hk.2) (.bool ((rd_T42 x0_1 x6_1).f0.f3))) (fun _ hk => hk.2) (.int .i64 ((rd_T42 x0_1 x6_1).f1))) (fun _ h_ => h_.1))) hb); have n1_ := Zz.mk (bkB (g := gb216) (o := .cells #[.int .i64 ((rd_T42 x0_1 x6_1).f0.f0), .int .i64 ((rd_T42 x0_1 x6_1).f0.f1), .int .i64 ((rd_T42 x0_1 x6_1).f0.f2), .bool ((rd_T42 x0_1 x6_1).f0.f3), .int .i64 ((rd_T42 x0_1 x6_1).f1)] 42 (0, 0)) (by (with_reducible repeat (first | refine bkN ?_ _ | refine bkD ?_ | refine bkA ?_ _)); refine blk_put (cs := #[.int .i64 ((rd_T42 x0_1 x6_1).f0.f0), .int .i64 ((rd_T42 x0_1 x6_1).f0.f1), .int .i64 ((rd_T42 x0_1 x6_1).f0.f2), .bool ((rd_T42 x0_1 x6_1).f0.f3), .int .i64 0]) ?_ 4 _ rfl; (with_reducible repeat (first | refine bkN ?_ _ | refine bkD ?_ | refine bkA ?_ _)); refine blk_put (cs := #[.int .i64 ((rd_T42 x0_1 x6_1).f0.f0), .int .i64 ((rd_T42 x0_1 x6_1).f0.f1), .int .i64 ((rd_T42 x0_1 x6_1).f0.f2), .bool false, .int .i64 0]) ?_ 3 _ rfl; (with_reducible repeat (first | refine bkN ?_ _ | refine bkD ?_ | refine bkA ?_ _)); refine blk_put (cs := #[.int .i64 ((rd_T42 x0_1 x6_1).f0.f0), .int .i64 ((rd_T42 x0_1 x6_1).f0.f1), .int .i64 0, .bool false, .int .i64 0]) ?_ 2 _ rfl; (with_reducible repeat (first | refine bkN ?_ _ | refine bkD ?_ | refine bkA ?_ _)); refine blk_put (cs := #[.int .i64 ((rd_T42 x0_1 x6_1).f0.f0), .int .i64 0, .int .i64 0, .bool false, .int .i64 0]) ?_ 1 _ rfl; (with_reducible repeat (first | refine bkN ?_ _ | refine bkD ?_ | refine bkA ?_ _)); refine blk_put (cs := #[.int .i64 0, .int .i64 0, .int .i64 0, .bool false, .int .i64 0]) ?_ 0 _ rfl; (with_reducible repeat (first | refine bkN ?_ _ | refine bkD ?_ | refine bkA ?_ _)); exact BK216.out) hb); have n2_ := Zz.mk (Kept.below (S := (fun k_ => P0_ k_)) (by repeat (first | (with_reducible first | exact HK.out | apply Kept.alloc | apply Kept.drewN | apply Kept.drew | refine Kept.setCell ?_ (.inr GW216.out) _) | exact HK.out)) hb); have n3_ := Zz.mk (bwP (by repeat (first | (with_reducible first | exact HB.out | apply bwA | apply pwN | apply bw1 | refine bwS ?_ GE216.out) | exact HB.out)) hb); clear HO_0; clear BK216; clear HK; clear HB; have HO_0 := n0_; have BK216 := n1_; have HK := n2_; have HB := n3_; clear n0_ n1_ n2_ n3_; (try clear hb); (try clear A11); have hcz22_0 : w21.cell? ⟨gb216, 0, none⟩ = some (.int .i64 ((rd_T42 x0_1 x6_1).f0.f0)) := (bkC BK216.out 0).trans rfl; have hcz22_1 : w21.cell? ⟨gb216, 1, none⟩ = some (.int .i64 ((rd_T42 x0_1 x6_1).f0.f1)) := (bkC BK216.out 1).trans rfl; have hcz22_2 : w21.cell? ⟨gb216, 2, none⟩ = some (.int .i64 ((rd_T42 x0_1 x6_1).f0.f2)) := (bkC BK216.out 2).trans rfl; have hcz22_3 : w21.cell? ⟨gb216, 3, none⟩ = some (.bool ((rd_T42 x0_1 x6_1).f0.f3)) := (bkC BK216.out 3).trans rfl; have hcz22_4 : w21.cell? ⟨gb216, 4, none⟩ = some (.int .i64 ((rd_T42 x0_1 x6_1).f1)) := (bkC BK216.out 4).trans rfl; have hfz22_0 := bkF BK216.out 0; have hfz22_1 := bkF BK216.out 1; have hfz22_2 := bkF BK216.out 2; have hfz22_3 := bkF BK216.out 3; have hfz22_4 := bkF BK216.out 4; have p18 : 0 ≤ (x5_1 : Int) := of_decide_eq_true (by first | (with_reducible assumption) | assumption); have q18 : (x5_1 : Int) < ((x0_1.length : Int) : Int) := of_decide_eq_true (by first | (with_reducible assumption) | assumption); obtain ⟨go18, co18, eo18, gb18, gl18, cl18, HG18⟩ := Kd.R_form HO_0.out (by omega); (first | cases eo18 | (injection eo18 with ea_ en_ ec_; (first | subst ea_ | (injection ea_ with ea_; subst ea_)); subst ec_; clear en_)); have GB18 := Zz.mk gb18; have GG18 := Zz.mk HG18; clear gb18 gl18 HG18; have HMgo18 := Zz.mk (show (P0_ go18 ∨ w.heap.size ≤ go18) from (HO_0.out.1 _ rfl).1); (first | simp only [add_plain] at hx215_0 | skip); (first | simp only [add_plain] at hx215_1 | skip); (first | simp only [add_plain] at hx215_2 | skip); (first | simp only [add_plain] at hx215_3 | skip); (first | simp only [add_plain] at hx215_4 | skip); obtain ⟨ce18, hcl18, hM18, hcc18, hfr18⟩ := Kd.R_elem HO_0.out z42 (x5_1 : Int) p18 q18; obtain rfl := k42_openM hM18; have hx18_0 : w21.cell? ⟨go18, (x5_1 : Int).toNat * 5, none⟩ = some (.int .i64 ((rd_T42 x0_1 x5_1).f0.f0)) := hcc18 0 _ rfl; have hx18_1 : w21.cell? ⟨go18, (x5_1 : Int).toNat * 5 + 1, none⟩ = some (.int .i64 ((rd_T42 x0_1 x5_1).f0.f1)) := hcc18 1 _ rfl; have hx18_2 : w21.cell? ⟨go18, (x5_1 : Int).toNat * 5 + 2, none⟩ = some (.int .i64 ((rd_T42 x0_1 x5_1).f0.f2)) := hcc18 2 _ rfl; have hx18_3 : w21.cell? ⟨go18, (x5_1 : Int).toNat * 5 + 3, none⟩ = some (.bool ((rd_T42 x0_1 x5_1).f0.f3)) := hcc18 3 _ rfl; have hx18_4 : w21.cell? ⟨go18, (x5_1 : Int).toNat * 5 + 4, none⟩ = some (.int .i64 ((rd_T42 x0_1 x5_1).f1)) := hcc18 4 _ rfl; have hf18_0 : w21.frozen? ⟨go18, (x5_1 : Int).toNat * 5, none⟩ = false := hfr18 0; have hf18_1 : w21.frozen? ⟨go18, (x5_1 : Int).toNat * 5 + 1, none⟩ = false := hfr18 1; have hf18_2 : w21.frozen? ⟨go18, (x5_1 : Int).toNat * 5 + 2, none⟩ = false := hfr18 2; have hf18_3 : w21.frozen? ⟨go18, (x5_1 : Int).toNat * 5 + 3, none⟩ = false := hfr18 3; have hf18_4 : w21.frozen? ⟨go18, (x5_1 : Int).toNat * 5 + 4, none⟩ = false := hfr18 4; clear hcl18 hcc18 hfr18 hM18; replace p18 := eq_true p18; replace q18 := eq_true q18; have HX23 := Zz.mk (show Kd.R k42 42 w21 w0.heap.size (fun k_ => (P0_ k_ ∨ w.heap.size ≤ k_) ∧ k_ ≠ gb216) (.slice (some ⟨go18, 0, none⟩) x0_1.length co7) x0_1 from (by (with_reducible repeat (first | apply Kd.RA | apply Kd.RN | apply Kd.RD)); exact HO_0.out)); obtain ⟨ce23, hcl23, hM23, hcc23, hfr23⟩ := Kd.R_elem HX23.out z42 (x5_1 : Int) (of_decide_eq_true (by first | (with_reducible assumption) | assumption)) (by have h_ : (x5_1 : Int) < ((x0_1.length : Int) : Int) := of_decide_eq_true (by first | (with_reducible assumption) | assumption); first | exact h_ | (have e_ := (Kd.R_reads' HO_0.out).1; omega) | simpa using h_); obtain rfl := k42_openM hM23; have HP23 := Kd.R_seg HX23.out (x5_1 : Int) (of_decide_eq_true (by first | (with_reducible assumption) | assumption)) (by have h_ : (x5_1 : Int) < ((x0_1.length : Int) : Int) := of_decide_eq_true (by first | (with_reducible assumption) | assumption); first | exact h_ | (have e_ := (Kd.R_reads' HO_0.out).1; omega) | simpa using h_) (seg := [.int .i64 ((rd_T42 x0_1 x6_1).f0.f0), .int .i64 ((rd_T42 x0_1 x6_1).f0.f1), .int .i64 ((rd_T42 x0_1 x6_1).f0.f2), .bool ((rd_T42 x0_1 x6_1).f0.f3), .int .i64 ((rd_T42 x0_1 x6_1).f1)]) (j := 0) hcl23 hcc23 (show 5 ≤ 5 from by decide) (x' := (⟨(⟨(rd_T42 x0_1 x6_1).f0.f0, (rd_T42 x0_1 x6_1).f0.f1, (rd_T42 x0_1 x6_1).f0.f2, (rd_T42 x0_1 x6_1).f0.f3⟩ : S40), (rd_T42 x0_1 x6_1).f1⟩ : S42)) (k42_mkM _ _ _ (⟨(⟨(rd_T42 x0_1 x6_1).f0.f0, (rd_T42 x0_1 x6_1).f0.f1, (rd_T42 x0_1 x6_1).f0.f2, (rd_T42 x0_1 x6_1).f0.f3⟩ : S40), (rd_T42 x0_1 x6_1).f1⟩ : S42) ) (fun _ hk => hk); have hx23_0 := hcc23 0 _ rfl; (try simp only [show (k42).sz = 5 from rfl, Nat.mul_one, Nat.add_zero] at hx23_0); have hf23_0 := hfr23 0; (try simp only [show (k42).sz = 5 from rfl, Nat.mul_one, Nat.add_zero] at hf23_0); have hx23_1 := hcc23 1 _ rfl; (try simp only [show (k42).sz = 5 from rfl, Nat.mul_one, Nat.add_zero] at hx23_1); have hf23_1 := hfr23 1; (try simp only [show (k42).sz = 5 from rfl, Nat.mul_one, Nat.add_zero] at hf23_1); have hx23_2 := hcc23 2 _ rfl; (try simp only [show (k42).sz = 5 from rfl, Nat.mul_one, Nat.add_zero] at hx23_2); have hf23_2 := hfr23 2; (try simp only [show (k42).sz = 5 from rfl, Nat.mul_one, Nat.add_zero] at hf23_2); have hx23_3 := hcc23 3 _ rfl; (try simp only [show (k42).sz = 5 from rfl, Nat.mul_one, Nat.add_zero] at hx23_3); have hf23_3 := hfr23 3; (try simp only [show (k42).sz = 5 from rfl, Nat.mul_one, Nat.add_zero] at hf23_3); have hx23_4 := hcc23 4 _ rfl; (try simp only [show (k42).sz = 5 from rfl, Nat.mul_one, Nat.add_zero] at hx23_4); have hf23_4 := hfr23 4; (try simp only [show (k42).sz = 5 from rfl, Nat.mul_one, Nat.add_zero] at hf23_4); clear hcl23 hcc23 hfr23 hM23) | ((with_reducible refine gate_store (t := 42) (p := 33) rfl ?_); refine store_event (t := 42) (p := 33) (v := ?vo_w24) (w1 := (((((w21.setCell ⟨go18, (x5_1 : Int).toNat * 5, none⟩ (.int .i64 ((rd_T42 x0_1 x6_1).f0.f0))).setCell ⟨go18, (x5_1 : Int).toNat * 5 + 1, none⟩ (.int .i64 ((rd_T42 x0_1 x6_1).f0.f1))).setCell ⟨go18, (x5_1 : Int).toNat * 5 + 2, none⟩ (.int .i64 ((rd_T42 x0_1 x6_1).f0.f2))).setCell ⟨go18, (x5_1 : Int).toNat * 5 + 3, none⟩ (.bool ((rd_T42 x0_1 x6_1).f0.f3))).setCell ⟨go18, (x5_1 : Int).toNat * 5 + 4, none⟩ (.int .i64 ((rd_T42 x0_1 x6_1).f1)))) ?hg ?ho ?hn ?hr ?_; (case ho => rfl); (case hg => rfl); (case hn => rfl); (case hr => first | (go_simp; done) | (go_simp; rfl)); intro w24 hw; have hg : w21.grownBy w24 (some go18) := (by rw [hw]; exact HP23.2); have hp_ : Kd.R k42 42 w24 w0.heap.size (fun k_ => (P0_ k_ ∨ w.heap.size ≤ k_) ∧ k_ ≠ gb216) (.slice (some ⟨go18, 0, none⟩) x0_1.length co7) y218 := (by rw [hw, Ny218.out]; exact HP23.1); clear HP23; have n0_ := Zz.mk (hp_); have n1_ := Zz.mk (bkG (g := gb216) (o := .cells #[.int .i64 ((rd_T42 x0_1 x6_1).f0.f0), .int .i64 ((rd_T42 x0_1 x6_1).f0.f1), .int .i64 ((rd_T42 x0_1 x6_1).f0.f2), .bool ((rd_T42 x0_1 x6_1).f0.f3), .int .i64 ((rd_T42 x0_1 x6_1).f1)] 42 (0, 0)) (by (with_reducible repeat (first | refine bkN ?_ _ | refine bkD ?_ | refine bkA ?_ _)); exact BK216.out) hg (Kd.R_away HO_0.out (fun _ hk => hk.2))); have n2_ := Zz.mk ((by rw [hw]; exact bwS (bwS (bwS (bwS (bwS (HB.out) GB18.out) GB18.out) GB18.out) GB18.out) GB18.out : Below w0.heap.size w0 w24)); have n3_ := Zz.mk (Kept.of_grown (S := (fun k_ => P0_ k_)) hg (by repeat (first | (with_reducible first | exact HK.out | apply Kept.alloc | apply Kept.drewN | apply Kept.drew | refine Kept.setCell ?_ (.inr GW216.out) _) | exact HK.out)) (fun k_ e_ => (HO_0.out.1 k_ e_).1)); clear HO_0; clear BK216; clear HB; clear HK; have HO_0 := n0_; have BK216 := n1_; have HB := n2_; have HK := n3_; clear n0_ n1_ n2_ n3_; clear hg hw hp_))
         (try simp only [← hl0_1])
         go_roundg k1
         case measure => have := HK1.out; omega
         case rel => exact ⟨(y218), (wrap64 (x5_1 + 1)), (wrap64 (x6_1 + 1)), (by first | rfl | (simp; done) | (simp [*]; done)), (by first | rfl | (simp; done) | (simp [*]; done)), H', ⟨by have := HK1.out; omega⟩, ⟨by (try simp only [hl0_1]); (with_reducible repeat (first | apply Kd.RA | apply Kd.RN | apply Kd.RD)); exact Kd.R_mono HO_0.out (fun _ hk => hk.1)⟩, ⟨by repeat (first | (with_reducible first | exact HK.out | apply Kept.alloc | apply Kept.drewN | apply Kept.drew | refine Kept.setCell ?_ (.inr GW216.out) _) | exact HK.out)⟩, ⟨by repeat (first | (with_reducible first | exact HB.out | apply bwA | apply pwN | apply bw1 | refine bwS ?_ GE216.out) | exact HB.out)⟩⟩
        ·rw [if_neg c17] at H; exact absurd H (by simp)
       ·rw [if_neg c16] at H; exact absurd H (by simp)
     ·rw [if_neg c10] at H; exact absurd H (by simp)
    ·rw [if_neg c9] at H
     have c9b0 : decide (x6_1 < (x0_1.length : Int)) = false := decide_eq_false c9; clear c9; by_cases c25 : x5_1 < (x0_1.length : Int)
     ·rw [if_pos c25] at H
      have c25b0 : decide (x5_1 < (x0_1.length : Int)) = true := decide_eq_true c25; clear c25; by_cases c26 : 0 ≤ x5_1
      ·rw [if_pos c26] at H
       have c26b0 := eq_true c26; have c26b1 : decide (0 ≤ x5_1) = true := decide_eq_true c26; clear c26; by_cases c27 : x5_1 ≤ (x0_1.length : Int)
       ·rw [if_pos c27] at H
        have c27b0 := eq_true c27; have c27b1 : decide (x5_1 ≤ (x0_1.length : Int)) = true := decide_eq_true c27; clear c27; obtain ⟨y219, hy219⟩ : ∃ y_ : List (S42), y_ = (x0_1.take (x5_1 : Int).toNat) := ⟨_, rfl⟩
        replace H : (some y219) = some r := by first | (rw [hy219]; with_reducible exact H) | (replace H := (Option.bind_some _ _).symm.trans H; first | (rw [hy219]; with_reducible exact H) | with_reducible exact H) | with_reducible exact H | (rw [hy219]; exact H) | exact H
        have Ny219 := Zz.mk hy219; clear hy219; obtain rfl := Option.some.inj H; have q28 : (x5_1 : Int) ≤ ((x0_1.length : Int) : Int) := of_decide_eq_true (by first | (with_reducible assumption) | assumption); obtain ⟨i028, hi028, _, hsz28, _⟩ := info_parts info42; have hcut28 := cut_to (P := Try.prog) 25 42 .i64 Try.underlying25 hi028 Ao7 x0_1.length co7 x5_1 (of_decide_eq_true (by first | (with_reducible assumption) | assumption)) q28 (Kd.R_reads' HO_0.out).2.1; have hcf_ := cut_from (P := Try.prog) 25 42 .i64 Try.underlying25 hi028 k42.sz hsz28 Ao7 x0_1.length co7 x5_1 (of_decide_eq_true (by first | (with_reducible assumption) | assumption)) (of_decide_eq_true (by first | (with_reducible assumption) | assumption)); have hqc_ : x5_1 < (x0_1.length : Int) := of_decide_eq_true (by first | (with_reducible assumption) | assumption); have hqd_ : 0 ≤ x5_1 := of_decide_eq_true (by first | (with_reducible assumption) | assumption); obtain ⟨wc_, hclr_, hrc_, hgc_⟩ := clear_tail (P := Try.prog) k42 25 42 (.agg #[.int .i64 0, .int .i64 0, .int .i64 0, .bool false, .int .i64 0]) Try.underlying25 (fun w => by kernel_rfl) rfl (by simp [Value.oneCell', Value.cells]) HO_0.out (x5_1 : Int).toNat (by omega); have n0_ := Zz.mk (Kept.of_grown hgc_ HK.out (fun k_ e_ => HO_0.out.1 k_ e_)); have n1_ := Zz.mk (HB.out.grown hgc_ HB.out.size (own_base HO_0.out.2.choose_spec.1)); obtain ⟨vc_, hvc_⟩ : ∃ vc, vc = Value.slice (if co7 = (x5_1 : Int).toNat then Ao7 else Ao7.map (·.add ((x5_1 : Int).toNat * k42.sz))) (x0_1.length - (x5_1 : Int).toNat) (co7 - (x5_1 : Int).toNat) := ⟨_, rfl⟩
        rw [← hvc_] at hclr_ hcf_; clear hvc_ hqc_ hqd_ HK HB; have HK := n0_; have HB := n1_; clear n0_ n1_ hgc_; have hr28 := hrc_; have hy28 : y219.length = (x5_1 : Int).toNat := (by rw [Ny219.out, List.length_take]; omega)
        rw [← Ny219.out] at hr28; rw [← hy28] at hr28 hcut28; clear hy28 hi028 hsz28 HO_0; have HO221 := Zz.mk hr28; clear hr28; replace q28 := eq_true q28; go_wp2
        go_ret
        exact ⟨_, by first | rfl | (simp [eN, eS] <;> rfl) | (simp [*, eN, eS] <;> rfl), by (with_reducible repeat (first | apply Kd.RA | apply Kd.RN | apply Kd.RD)); exact HO221.out, by repeat (first | (with_reducible first | exact HB.out | apply bwA | apply pwN | apply bw1) | exact HB.out), by repeat (first | (with_reducible first | exact HK.out | apply Kept.alloc | apply Kept.drewN | apply Kept.drew) | exact HK.out)⟩
       ·rw [if_neg c27] at H; exact absurd H (by simp)
      ·rw [if_neg c26] at H; exact absurd H (by simp)
     ·rw [if_neg c25] at H; exact absurd H (by simp)

/-! ### impl_CastTake: function 9 -/
mutual
def impl_CastTake.l0 : Nat → Int → List (S42) → List Int → Int → Int → Option ((List (S40)) × (List (S42)))
 | 0, _, _, _, _, _ => none
 | k + 1, x1, x2, x6, x20, x21 => if x21 < x20 then (if 0 ≤ x21 then (if x21 < (x6.length : Int) then (impl_CastTake.l0 k x1 x2 (x6.set (x21 : Int).toNat x21) x20 (wrap64 (x21 + 1))) else (none)) else (none)) else ((slices_SortStableFunc_int_int.f k x6 () x2).bind fun t227 => ((impl_Item_25.f x2).bind fun t228 => ((impl_first.f t227 x1).bind fun t231 => ((slices_Sort_int_int.f k t231).bind fun t234 => (impl_CastTake.l1 k t228 ([] : List (S40)) t234 (t231.length : Int) 0)))))
def impl_CastTake.l1 : Nat → List (S42) → List (S40) → List Int → Int → Int → Option ((List (S40)) × (List (S42)))
 | 0, _, _, _, _, _ => none
 | k + 1, x8, x10, x39, x40, x41 => if x41 < x40 then (if 0 ≤ x41 then (if x41 < (x39.length : Int) then (if 0 ≤ (rd x39 x41) then (if (rd x39 x41) < (x8.length : Int) then (if x10.length < 4398046511104 then (impl_CastTake.l1 k (x8.set ((rd x39 x41) : Int).toNat (⟨(⟨(rd_T42 x8 (rd x39 x41)).f0.f0, (rd_T42 x8 (rd x39 x41)).f0.f1, (rd_T42 x8 (rd x39 x41)).f0.f2, (rd_T42 x8 (rd x39 x41)).f0.f3⟩ : S40), wrap64 (((rd_T42 x8 (rd x39 x41)).f1) - 1)⟩ : S42)) (x10 ++ [(⟨(rd_T42 x8 (rd x39 x41)).f0.f0, (rd_T42 x8 (rd x39 x41)).f0.f1, (rd_T42 x8 (rd x39 x41)).f0.f2, (rd_T42 x8 (rd x39 x41)).f0.f3⟩ : S40)]) x39 x40 (wrap64 (x41 + 1))) else (none)) else (none)) else (none)) else (none)) else (none)) else ((impl_Item_28.f k x8 ()).bind fun t242 => (some (x10, t242)))
end
def impl_CastTake.f (k : Nat) (l0 : List (S42)) (a1 : Int) : Option ((List (S40)) × (List (S42))) := (impl_CastOk.f k l0).bind fun t222 => (if t222 = true then (if 0 ≤ (l0.length : Int) then (if ((l0.length : Int) : Int).toNat ≤ 35184372088832 then ((some (List.replicate ((l0.length : Int) : Int).toNat 0 : List Int)).bind fun y223 => (impl_CastTake.l0 k a1 l0 y223 (y223.length : Int) 0)) else (none)) else (none)) else (some (([] : List (S40)), ([] : List (S42)))))
theorem impl_CastTake.mono_l : ∀ k, (∀ y0 y1 y2 y3 y4, LeO (impl_CastTake.l0 k y0 y1 y2 y3 y4) (impl_CastTake.l0 (k + 1) y0 y1 y2 y3 y4)) ∧ (∀ y0 y1 y2 y3 y4, LeO (impl_CastTake.l1 k y0 y1 y2 y3 y4) (impl_CastTake.l1 (k + 1) y0 y1 y2 y3 y4))
 | 0 => ⟨fun _ _ _ _ _ r h => by simp [impl_CastTake.l0] at h, fun _ _ _ _ _ r h => by simp [impl_CastTake.l1] at h⟩
 | k + 1 => by
  obtain ⟨ih0, ih1⟩ := impl_CastTake.mono_l k; refine ⟨?_, ?_⟩
  ·intro y0 y1 y2 y3 y4
   unfold impl_CastTake.l0; repeat' first
   | (with_reducible exact ih0 _ _ _ _ _)
   | (with_reducible exact ih1 _ _ _ _ _)
   | (with_reducible exact impl_CastOk.mono _ _)
   | (with_reducible exact impl_Item_28.mono _ _ _)
   | (with_reducible exact slices_SortStableFunc_int_int.mono _ _ _ _)
   | (with_reducible exact slices_Sort_int_int.mono _ _)
   | (with_reducible exact LeO.refl _)
   | (with_reducible exact LeO.none _)
   | (with_reducible refine LeO.ite ?_ ?_)
   | (with_reducible refine LeO.bind ?_ (fun _ => ?_))
   | exact ih0 _ _ _ _ _
   | exact ih1 _ _ _ _ _
   | exact impl_CastOk.mono _ _
   | exact impl_Item_28.mono _ _ _
   | exact slices_SortStableFunc_int_int.mono _ _ _ _
   | exact slices_Sort_int_int.mono _ _
   | exact LeO.none _
   | refine LeO.ite ?_ ?_
   | refine LeO.bind ?_ (fun _ => ?_)
  ·intro y0 y1 y2 y3 y4
   unfold impl_CastTake.l1; repeat' first
   | (with_reducible exact ih0 _ _ _ _ _)
   | (with_reducible exact ih1 _ _ _ _ _)
   | (with_reducible exact impl_CastOk.mono _ _)
   | (with_reducible exact impl_Item_28.mono _ _ _)
   | (with_reducible exact slices_SortStableFunc_int_int.mono _ _ _ _)
   | (with_reducible exact slices_Sort_int_int.mono _ _)
   | (with_reducible exact LeO.refl _)
   | (with_reducible exact LeO.none _)
   | (with_reducible refine LeO.ite ?_ ?_)
   | (with_reducible refine LeO.bind ?_ (fun _ => ?_))
   | exact ih0 _ _ _ _ _
   | exact ih1 _ _ _ _ _
   | exact impl_CastOk.mono _ _
   | exact impl_Item_28.mono _ _ _
   | exact slices_SortStableFunc_int_int.mono _ _ _ _
   | exact slices_Sort_int_int.mono _ _
   | exact LeO.none _
   | refine LeO.ite ?_ ?_
   | refine LeO.bind ?_ (fun _ => ?_)
theorem impl_CastTake.mono : ∀ a0 a1 k, LeO (impl_CastTake.f k a0 a1) (impl_CastTake.f (k + 1) a0 a1) := by
 intro a0 a1 k; obtain ⟨ih0, ih1⟩ := impl_CastTake.mono_l k; unfold impl_CastTake.f
 repeat' first
   | (with_reducible exact ih0 _ _ _ _ _)
   | (with_reducible exact ih1 _ _ _ _ _)
   | (with_reducible exact impl_CastOk.mono _ _)
   | (with_reducible exact impl_Item_28.mono _ _ _)
   | (with_reducible exact slices_SortStableFunc_int_int.mono _ _ _ _)
   | (with_reducible exact slices_Sort_int_int.mono _ _)
   | (with_reducible exact LeO.refl _)
   | (with_reducible exact LeO.none _)
   | (with_reducible refine LeO.ite ?_ ?_)
   | (with_reducible refine LeO.bind ?_ (fun _ => ?_))
   | exact ih0 _ _ _ _ _
   | exact ih1 _ _ _ _ _
   | exact impl_CastOk.mono _ _
   | exact impl_Item_28.mono _ _ _
   | exact slices_SortStableFunc_int_int.mono _ _ _ _
   | exact slices_Sort_int_int.mono _ _
   | exact LeO.none _
   | refine LeO.ite ?_ ?_
   | refine LeO.bind ?_ (fun _ => ?_)
set_option maxHeartbeats 8000000 in
set_option maxRecDepth 100000 in
theorem impl_CastTake.calls (k : Nat) (A0 : Option Addr) (c0 : Nat) (l0 : List (S42)) (a1 : Int) (r1 : List (S40)) (r2 : List (S42)) (w : World) (hr0 : Kd.C k42 w A0 l0.length l0) (hc0 : l0.length ≤ c0) (h : impl_CastTake.f k l0 a1 = some (r1, r2)) :
  Calls Try.prog 9 #[.slice A0 l0.length c0, .int .i64 a1] w fun e w' => ∃ v0_ v1_ : Value, e = .returned (.tuple #[v0_, v1_]) ∧ Kd.R k40 40 w' w.heap.size (fun _ => True) v0_ r1 ∧ Kd.R k42 42 w' w.heap.size (fun _ => True) v1_ r2 ∧ Below w.heap.size w w' := by
 have hu40 := Try.underlying40; have HR0 := Zz.mk hr0; have HC0 := Zz.mk hc0; clear hr0 hc0; have HB := Zz.mk (Below.refl w.heap.size w); have H : ((impl_CastOk.f k l0).bind fun t222 => (if t222 = true then (if 0 ≤ (l0.length : Int) then (if ((l0.length : Int) : Int).toNat ≤ 35184372088832 then ((some (List.replicate ((l0.length : Int) : Int).toNat 0 : List Int)).bind fun y223 => (impl_CastTake.l0 k a1 l0 y223 (y223.length : Int) 0)) else (none)) else (none)) else (some (([] : List (S40)), ([] : List (S42)))))) = some (r1, r2) := h; clear h; replace H := Option.bind_eq_some_iff.mp H; obtain ⟨t222, A30, H⟩ := H; replace H : (if t222 = true then (if 0 ≤ (l0.length : Int) then (if ((l0.length : Int) : Int).toNat ≤ 35184372088832 then ((some (List.replicate ((l0.length : Int) : Int).toNat 0 : List Int)).bind fun y223 => (impl_CastTake.l0 k a1 l0 y223 (y223.length : Int) 0)) else (none)) else (none)) else (some (([] : List (S40)), ([] : List (S42))))) = some (r1, r2) := H; have A3 := Zz.mk A30; clear A30; by_cases c4 : t222 = true
 ·subst c4
  have H1 : (if 0 ≤ (l0.length : Int) then (if ((l0.length : Int) : Int).toNat ≤ 35184372088832 then ((some (List.replicate ((l0.length : Int) : Int).toNat 0 : List Int)).bind fun y223 => (impl_CastTake.l0 k a1 l0 y223 (y223.length : Int) 0)) else (none)) else (none)) = some (r1, r2) := by rw [if_pos rfl] at H; exact H
  clear H; have H := H1; clear H1; by_cases c5 : 0 ≤ (l0.length : Int)
  ·rw [if_pos c5] at H
   have c5b0 := eq_true c5; have c5b1 : decide (0 ≤ (l0.length : Int)) = true := decide_eq_true c5; clear c5; by_cases c6 : ((l0.length : Int) : Int).toNat ≤ 35184372088832
   ·rw [if_pos c6] at H
    have c6b0 := eq_true c6; have c6b1 : decide (((l0.length : Int) : Int).toNat ≤ 35184372088832) = true := decide_eq_true c6; clear c6; obtain ⟨y223, hy223⟩ : ∃ y_ : List Int, y_ = (List.replicate ((l0.length : Int) : Int).toNat 0) := ⟨_, rfl⟩
    replace H : (impl_CastTake.l0 k a1 l0 y223 (y223.length : Int) 0) = some (r1, r2) := by first | (rw [hy223]; with_reducible exact H) | (replace H := (Option.bind_some _ _).symm.trans H; first | (rw [hy223]; with_reducible exact H) | with_reducible exact H) | with_reducible exact H | (rw [hy223]; exact H) | exact H
    have Ny223 := Zz.mk hy223; clear hy223; have H' := Zz.mk H; clear H; obtain ⟨wq_, rfl⟩ : ∃ x : World, x = w := ⟨_, rfl⟩
    go_enter Try.func9, Try.ntmps9; go_wp2_with (first | ((with_reducible refine gate_dst (N := 2) rfl ?_); refine box_event ?hg (N := 2) ?hd (cs := #[.slice A0 l0.length c0]) (t := 25) ?hr ?_; (case hd => rfl); (case hg => rfl); (case hr => first | (go_simp; done) | (go_simp; rfl)); intro cb hg w hbox hb; have HX := Zz.mk hb; have n0_ := Zz.mk (Kd.C_below HR0.out hb); clear HR0; have HR0 := n0_; clear HB; have HB := Zz.mk (Below.refl w.heap.size w); have hcq_ : w.cell? ⟨cb, 0, none⟩ = some (.slice A0 l0.length c0) := (bkC hbox 0).trans rfl; have HCB := Zz.mk hcq_; clear n0_ hb hbox hg) | ((with_reducible refine gate_callee (f := 19) rfl ?_); refine goesL_ (some 14) rfl rfl Try.func19 (by kernel_rfl) rfl #[.slice A0 l0.length c0] rfl (by (try simp only [List.map_toArray, List.map_cons, List.map_nil]); first | done | rfl | (simp only [List.length_drop, List.length_take]; rfl)) ?_; (with_reducible refine (impl_CastOk.calls k _ _ l0 true _ ?side1 ?side2 A3.out).mono ?_); (case side1 => repeat (first | exact HR0.out | (with_reducible refine Kd.CA ?_ _) | (with_reducible refine Kd.CN ?_ _) | (with_reducible refine Kd.CD ?_))); (case side2 => exact HC0.out); rintro e w7 ⟨rfl, hb⟩; refine ⟨_, rfl, ?_⟩; have n0_ := Zz.mk (bwP (by repeat (first | (with_reducible first | exact HB.out | apply bwA | apply pwN | apply bw1) | exact HB.out)) hb); clear HB; have HB := n0_; clear n0_; (try clear hb); (try clear A3); (try clear hcq_); have hcq_ : w7.cell? ⟨cb, 0, none⟩ = some (.slice A0 l0.length c0) := (bc HB.out HCB.out :)) | ((with_reducible refine gate_dst (N := 18) rfl ?_); refine Kd.R_make (Kd.int .i64) _ 3 rfl (N := 18) rfl 38 _ _ rfl (l0.length : Int) rfl rfl Try.underlying38 (.int .i64 0) 8 info3 rfl (by decide) (by omega) 0 (ok := fun _ => True) (okp := fun _ => True) rfl (fun _ hk => hk) trivial (of_decide_eq_true (by first | (with_reducible assumption) | assumption)) (Nat.le_trans (Nat.mul_le_mul_right _ (of_decide_eq_true (by first | (with_reducible assumption) | assumption) : (l0.length : Int).toNat ≤ 35184372088832)) (by omega)) (Below.refl _ _) (Nat.le_refl _) ?_; intro v224 w8 ho9 hb hg_ hnew_; clear hg_ hnew_; (first | rw [← Ny223.out] at ho9 | (simp only [Int.reduceToNat] at ho9; rw [← Ny223.out] at ho9)); have n0_ := Zz.mk (Kd.R_lower ho9 (bwZ (by repeat (first | (with_reducible first | exact HB.out | apply bwA | apply pwN | apply bw1) | exact HB.out)))); have n1_ := Zz.mk (bwP (by repeat (first | (with_reducible first | exact HB.out | apply bwA | apply pwN | apply bw1) | exact HB.out)) hb); clear HB; have HO225 := n0_; have HB := n1_; clear n0_ n1_; clear hb ho9; obtain ⟨Ao10, co10, eo10⟩ := Kd.R_slice HO225.out; subst eo10))
    go_loopg [21] k (fun kq v21 w' => ∃ (x6_1 : List Int) (x21_1 : Int), v21 = .int .i64 x21_1 ∧ Zz (impl_CastTake.l0 kq a1 l0 x6_1 (y223.length : Int) x21_1 = some (r1, r2)) ∧ Zz (kq ≤ k) ∧ Zz (Kd.R (Kd.int .i64) 3 w' w.heap.size (fun _ => True) (.slice Ao10 y223.length co10) x6_1) ∧ Zz (Below w.heap.size w w'))
    case atStart => exact ⟨(y223), (0), (by first | rfl | (simp; done) | (simp [*]; done)), H', ⟨Nat.le_refl _⟩, ⟨by (with_reducible repeat (first | apply Kd.RA | apply Kd.RN | apply Kd.RD)); exact HO225.out⟩, ⟨by repeat (first | (with_reducible first | exact HB.out | apply bwA | apply pwN | apply bw1) | exact HB.out)⟩⟩
    case round =>
     clear H'; try clear c1
     try clear p2
     try clear c4
     try clear c5
     try clear c5b0
     try clear c5b1
     try clear c6
     try clear c6b0
     try clear c6b1
     try clear c9
     obtain ⟨x6_1, x21_1, rfl, HA, HK1, HO_6, HB⟩ := hrel; have hl6_1 := (Kd.R_reads' HO_6.out).1; rw [hl6_1] at HO_6; (try simp only [hl6_1])
     cases gk with
     | zero => exact absurd HA.out (by simp [impl_CastTake.l0])
     | succ k1 =>
      have H := HA.out; clear HA; simp only [impl_CastTake.l0] at H; by_cases c11 : x21_1 < (y223.length : Int)
      ·rw [if_pos c11] at H
       have c11b0 : decide (x21_1 < (y223.length : Int)) = true := decide_eq_true c11; try (have c11b0d0 := c11b0; rw [hl6_1] at c11b0d0)
       try (have c11b0d1 := c11b0; rw [hl39_2] at c11b0d1)
       clear c11; by_cases c12 : 0 ≤ x21_1
       ·rw [if_pos c12] at H
        have c12b0 : decide (0 ≤ x21_1) = true := decide_eq_true c12; clear c12; by_cases c13 : x21_1 < (x6_1.length : Int)
        ·rw [if_pos c13] at H
         have c13b0 : decide (x21_1 < (x6_1.length : Int)) = true := decide_eq_true c13; try (have c13b0d0 := c13b0; rw [hl6_1] at c13b0d0)
         try (have c13b0d1 := c13b0; rw [hl39_2] at c13b0d1)
         clear c13; obtain ⟨y226, hy226⟩ : ∃ y_ : List Int, y_ = (x6_1.set (x21_1 : Int).toNat x21_1) := ⟨_, rfl⟩
         replace H : (impl_CastTake.l0 k1 a1 l0 y226 (y223.length : Int) (wrap64 (x21_1 + 1))) = some (r1, r2) := by first | (rw [hy226]; with_reducible exact H) | (replace H := (Option.bind_some _ _).symm.trans H; first | (rw [hy226]; with_reducible exact H) | with_reducible exact H) | with_reducible exact H | (rw [hy226]; exact H) | exact H
         have Ny226 := Zz.mk hy226; clear hy226; have H' := Zz.mk H; clear H; have p14 : 0 ≤ (x21_1 : Int) := of_decide_eq_true (by first | (with_reducible assumption) | assumption); have q14 : (x21_1 : Int) < ((x6_1.length : Int) : Int) := of_decide_eq_true (by first | (with_reducible assumption) | assumption); obtain ⟨go14, co14, eo14, gb14, gl14, cl14, HG14⟩ := Kd.R_form HO_6.out (by omega); (first | cases eo14 | (injection eo14 with ea_ en_ ec_; (first | subst ea_ | (injection ea_ with ea_; subst ea_)); subst ec_; clear en_))
         have GB14 := Zz.mk gb14; have GG14 := Zz.mk HG14; clear gb14 gl14 HG14; obtain ⟨hx14_0, hf14_0⟩ := Kd.R_celln 0 HO_6.out (x21_1 : Int) p14 q14; replace p14 := eq_true p14; replace q14 := eq_true q14; have HP15 := Kd.R_putg HO_6.out (x21_1 : Int) x21_1; go_wp2_with (first | ((with_reducible refine gate_store (t := 3) (p := 27) rfl ?_); refine store_event (t := 3) (p := 27) (v := ?vo_w16) (w1 := (wr.setCell ⟨go14, (x21_1 : Int).toNat, none⟩ (.int .i64 x21_1))) ?hg ?ho ?hn ?hr ?_; (case ho => rfl); (case hg => rfl); (case hn => rfl); (case hr => first | (go_simp; done) | (go_simp; rfl)); intro w16 hw; have hg : wr.grownBy w16 (some go14) := (by rw [hw]; exact HP15.2); have hp_ : Kd.R (Kd.int .i64) 3 w16 w.heap.size (fun _ => True) (.slice (some ⟨go14, 0, none⟩) x6_1.length co10) y226 := (by rw [hw, Ny226.out]; exact HP15.1); clear HP15; have n0_ := Zz.mk (hp_); have n1_ := Zz.mk ((by rw [hw]; exact bwS (HB.out) GB14.out : Below w.heap.size w w16)); clear HO_6; clear HB; have HO_6 := n0_; have HB := n1_; clear n0_ n1_; clear hg hw hp_))
         (try simp only [← hl6_1])
         go_roundg k1
         case measure => have := HK1.out; omega
         case rel => exact ⟨(y226), (wrap64 (x21_1 + 1)), (by first | rfl | (simp; done) | (simp [*]; done)), H', ⟨by have := HK1.out; omega⟩, ⟨by (try simp only [hl6_1]); (with_reducible repeat (first | apply Kd.RA | apply Kd.RN | apply Kd.RD)); exact HO_6.out⟩, ⟨by repeat (first | (with_reducible first | exact HB.out | apply bwA | apply pwN | apply bw1) | exact HB.out)⟩⟩
        ·rw [if_neg c13] at H; exact absurd H (by simp)
       ·rw [if_neg c12] at H; exact absurd H (by simp)
      ·rw [if_neg c11] at H
       have c11b0 : decide (x21_1 < (y223.length : Int)) = false := decide_eq_false c11; try (have c11b0d0 := c11b0; rw [hl6_1] at c11b0d0)
       try (have c11b0d1 := c11b0; rw [hl39_2] at c11b0d1)
       clear c11; replace H := Option.bind_eq_some_iff.mp H; obtain ⟨t227, A170, H⟩ := H; replace H : ((impl_Item_25.f l0).bind fun t228 => ((impl_first.f t227 a1).bind fun t231 => ((slices_Sort_int_int.f k1 t231).bind fun t234 => (impl_CastTake.l1 k1 t228 ([] : List (S40)) t234 (t231.length : Int) 0)))) = some (r1, r2) := H; have A17 := Zz.mk A170; clear A170; replace H := Option.bind_eq_some_iff.mp H; obtain ⟨t228, A180, H⟩ := H; replace H : ((impl_first.f t227 a1).bind fun t231 => ((slices_Sort_int_int.f k1 t231).bind fun t234 => (impl_CastTake.l1 k1 t228 ([] : List (S40)) t234 (t231.length : Int) 0))) = some (r1, r2) := H; have A18 := Zz.mk A180; clear A180; replace H := Option.bind_eq_some_iff.mp H; obtain ⟨t231, A190, H⟩ := H; replace H : ((slices_Sort_int_int.f k1 t231).bind fun t234 => (impl_CastTake.l1 k1 t228 ([] : List (S40)) t234 (t231.length : Int) 0)) = some (r1, r2) := H; have A19 := Zz.mk A190; clear A190; replace H := Option.bind_eq_some_iff.mp H; obtain ⟨t234, A200, H⟩ := H; replace H : (impl_CastTake.l1 k1 t228 ([] : List (S40)) t234 (t231.length : Int) 0) = some (r1, r2) := H; have A20 := Zz.mk A200; clear A200; have H' := Zz.mk H; clear H; go_wp2_with (first | ((with_reducible refine gate_callee (f := 23) rfl ?_); refine goesL_ (some 31) rfl rfl Try.func23 (by kernel_rfl) rfl #[.slice Ao10 x6_1.length co10, .func (.func 24) #[] #[.pointer (some ⟨cb, 0, none⟩)]] rfl (by (try simp only [List.map_toArray, List.map_cons, List.map_nil]); first | done | rfl | (simp only [List.length_drop, List.length_take]; rfl)) ?_; (with_reducible refine (slices_SortStableFunc_int_int.calls k1 (fun k_ => some k_ = (.slice Ao10 x6_1.length co10 : Value).ownBlock) (.slice Ao10 x6_1.length co10) x6_1 () A0 c0 l0 t227 w _ ?side1 ?side2 ?side3 ?side4 A17.out cb ?sidecb).mono ?_); (case side1 => repeat (first | (with_reducible first | exact HB.out | apply bwA | apply pwN | apply bw1) | exact HB.out)); (case side2 => exact Kd.R_tight rfl HO_6.out); (case side3 => exact Kd.C_kept_came k42_heap HR0.out (by repeat (first | (with_reducible first | exact HB.out | apply bwA | apply pwN | apply bw1) | exact HB.out)) (fun k_ hs_ => (fun e_ => Kd.R_base HO_6.out k_ e_.symm) hs_)); (case sidecb => exact fun W_ hk_ => cell_kept ((Below.cell (B := w.heap.size) (w := w) (by repeat (first | (with_reducible first | exact HB.out | apply bwA | apply pwN | apply bw1) | exact HB.out)) (World.block_lt_of_cell? w _ HCB.out)).trans HCB.out) hk_ (fun e_ => absurd (Kd.R_base HO_6.out cb e_.symm) (Nat.not_le_of_lt (World.block_lt_of_cell? w _ HCB.out)))); (case side4 => exact HC0.out); rintro e w21 ⟨rfl, hy0, hb, hkp⟩; refine ⟨_, rfl, ?_⟩; have n0_ := Zz.mk (Kd.R_reok rfl hy0 (fun k_ e_ => HO_6.out.1 k_ e_)); have n1_ := Zz.mk (hb); clear HO_6; clear HB; have HO_6 := n0_; have HB := n1_; clear n0_ n1_; (try clear hb); (try clear hkp); (try clear hy0); (try clear A17); (try clear hcq_); have hcq_ : w21.cell? ⟨cb, 0, none⟩ = some (.slice A0 l0.length c0) := (bc HB.out HCB.out :)) | ((with_reducible refine gate_callee (f := 25) rfl ?_); refine goesL_ (some 33) rfl rfl Try.func25 (by kernel_rfl) rfl #[.slice A0 l0.length c0] rfl (by (try simp only [List.map_toArray, List.map_cons, List.map_nil]); first | done | rfl | (simp only [List.length_drop, List.length_take]; rfl)) ?_; (with_reducible refine (impl_Item_25.calls _ _ l0 t228 _ ?side1 ?side2 A18.out).mono ?_); (case side1 => repeat (first | exact (Kd.C_below HR0.out HB.out) | (with_reducible refine Kd.CA ?_ _) | (with_reducible refine Kd.CN ?_ _) | (with_reducible refine Kd.CD ?_))); (case side2 => exact HC0.out); rintro e w22 ⟨v229, rfl, ho0, hb⟩; refine ⟨_, rfl, ?_⟩; have n0_ := Zz.mk (Kd.R_below (by (with_reducible repeat (first | apply Kd.RA | apply Kd.RN | apply Kd.RD)); exact HO_6.out) hb); have n1_ := Zz.mk (Kd.R_lower ho0 (bwZ (by repeat (first | (with_reducible first | exact HB.out | apply bwA | apply pwN | apply bw1) | exact HB.out)))); have n2_ := Zz.mk (bwP (by repeat (first | (with_reducible first | exact HB.out | apply bwA | apply pwN | apply bw1) | exact HB.out)) hb); clear HO_6; clear HB; have HO_6 := n0_; have HO230 := n1_; have HB := n2_; clear n0_ n1_ n2_; (try clear hb); (try clear ho0); (try clear A18)) | ((with_reducible refine gate_callee (f := 26) rfl ?_); refine goesL_ (some 36) rfl rfl Try.func26 (by kernel_rfl) rfl #[.slice Ao10 t227.length co10, .int .i64 a1] rfl (by (try simp only [List.map_toArray, List.map_cons, List.map_nil]); first | done | (rw [show t227.length = x6_1.length from (Kd.R_reads' HO_6.out).1.symm] <;> rfl) | rfl | (simp only [List.length_drop, List.length_take]; rfl)) ?_; (with_reducible refine (impl_first.calls _ _ t227 a1 t231 _ ?side1 ?side2 A19.out).mono ?_); (case side1 => repeat (first | exact (Kd.R_reads' HO_6.out).2.2 | (with_reducible refine Kd.CA ?_ _) | (with_reducible refine Kd.CN ?_ _) | (with_reducible refine Kd.CD ?_))); (case side2 => rw [show t227.length = x6_1.length from (Kd.R_reads' HO_6.out).1.symm]; exact (Kd.R_reads' HO_6.out).2.1); rintro e w23 ⟨v232, rfl, ho0, hb⟩; refine ⟨_, rfl, ?_⟩; have n0_ := Zz.mk (Kd.R_elder' (by (with_reducible repeat (first | apply Kd.RA | apply Kd.RN | apply Kd.RD)); exact HO_6.out) (Kd.R_base ho0) hb); have n1_ := Zz.mk (Kd.R_below (by (with_reducible repeat (first | apply Kd.RA | apply Kd.RN | apply Kd.RD)); exact HO230.out) hb); have n2_ := Zz.mk (Kd.R_lower (Kd.R_new' ho0 (Kd.R_lt (by (with_reducible repeat (first | apply Kd.RA | apply Kd.RN | apply Kd.RD)); exact HO_6.out))) (bwZ (by repeat (first | (with_reducible first | exact HB.out | apply bwA | apply pwN | apply bw1) | exact HB.out)))); have n3_ := Zz.mk (bwP (by repeat (first | (with_reducible first | exact HB.out | apply bwA | apply pwN | apply bw1) | exact HB.out)) hb); clear HO_6; clear HO230; clear HB; have HO_6 := n0_; have HO230 := n1_; have HO233 := n2_; have HB := n3_; clear n0_ n1_ n2_ n3_; (try clear hb); (try clear ho0); (try clear A19); obtain ⟨Ao24, co24, eo24⟩ := Kd.R_slice HO233.out; subst eo24) | ((with_reducible refine gate_callee (f := 27) rfl ?_); refine goesL_ (some 38) rfl rfl Try.func27 (by kernel_rfl) rfl #[.slice Ao24 t231.length co24] rfl (by (try simp only [List.map_toArray, List.map_cons, List.map_nil]); first | done | rfl | (simp only [List.length_drop, List.length_take]; rfl)) ?_; (with_reducible refine (slices_Sort_int_int.calls k1 (fun k_ => some k_ = (.slice Ao24 t231.length co24 : Value).ownBlock) (.slice Ao24 t231.length co24) t231 t234 w _ ?side1 ?side2 A20.out).mono ?_); (case side1 => repeat (first | (with_reducible first | exact HB.out | apply bwA | apply pwN | apply bw1) | exact HB.out)); (case side2 => exact Kd.R_tight rfl HO233.out); rintro e w25 ⟨rfl, hy0, hb, hkp⟩; refine ⟨_, rfl, ?_⟩; have n0_ := Zz.mk (Kd.R_mono (ok' := fun k_ => some k_ ≠ (.slice Ao24 t231.length co24 : Value).ownBlock) (Kd.R_keptB (HO_6.out) hkp (fun k_ hk_ hs_ => (hk_.2) hs_)) (fun k_ hk_ => hk_.1.2)); have n1_ := Zz.mk (Kd.R_mono (ok' := fun k_ => True) (Kd.R_keptB ((Kd.R_apart' HO230.out (Kd.R_typed HO233.out) (by decide))) hkp (fun k_ hk_ hs_ => (hk_.2) hs_)) (fun k_ hk_ => trivial)); have n2_ := Zz.mk (Kd.R_reok rfl hy0 (fun k_ e_ => HO233.out.1 k_ e_)); have n3_ := Zz.mk (hb); clear HO_6; clear HO230; clear HO233; clear HB; have HO_6 := n0_; have HO230 := n1_; have HO233 := n2_; have HB := n3_; clear n0_ n1_ n2_ n3_; (try clear hb); (try clear hkp); (try clear hy0); (try clear A20)))
       go_loopg [10, 41] k1 (fun kq v10 v41 w' => ∃ (x8_2 : List (S42)) (x10_2 : List (S40)) (x41_2 : Int), v41 = .int .i64 x41_2 ∧ Zz (impl_CastTake.l1 kq x8_2 x10_2 t234 (t231.length : Int) x41_2 = some (r1, r2)) ∧ Zz (kq ≤ k1) ∧ Zz (Kd.R k42 42 w' w.heap.size (fun _ => True) v229 x8_2) ∧ Zz (Kd.R k40 40 w' w.heap.size (fun _ => True) v10 x10_2) ∧ Zz (Kd.R (Kd.int .i64) 3 w' w.heap.size (fun _ => True) (.slice Ao24 t231.length co24) t234) ∧ Zz (Below w.heap.size w w'))
       case atStart => exact ⟨(t228), (([] : List (S40))), (0), (by first | rfl | (simp; done) | (simp [*]; done)), H', ⟨Nat.le_refl _⟩, ⟨by (try simp only [hl6_1]); (with_reducible repeat (first | apply Kd.RA | apply Kd.RN | apply Kd.RD)); exact HO230.out⟩, ⟨by (try simp only [hl6_1]); first | exact Kd.R_nil _ _ _ _ _ | exact Kd.N_nil _ _ _ _ _ | exact Kd.V_nil _ _ _ _ _ | exact Kd.Q_nil _ _ _ _ _ | exact Kd.S_nil _ _ _ _ _⟩, ⟨by (try simp only [hl6_1]); (with_reducible repeat (first | apply Kd.RA | apply Kd.RN | apply Kd.RD)); exact Kd.R_mono HO233.out (fun _ hk => trivial)⟩, ⟨by repeat (first | (with_reducible first | exact HB.out | apply bwA | apply pwN | apply bw1) | exact HB.out)⟩⟩
       case round =>
        clear H'; try clear c1
        try clear p1
        try clear q1
        try clear hx1
        try clear c2
        try clear p2
        try clear c4
        try clear c5
        try clear c5b0
        try clear c5b1
        try clear c6
        try clear c6b0
        try clear c6b1
        try clear p6
        try clear c9
        try clear c11
        try clear c11b0
        try clear c12
        try clear c12b0
        try clear c13
        try clear c13b0
        try clear p14
        try clear q14
        try clear hx14
        try clear hf14
        try clear c19
        try clear c23
        try clear c25
        try clear hx14_0
        try clear p14
        try clear p2
        try clear q14
        obtain ⟨x8_2, x10_2, x41_2, rfl, HA, HK2, HO_8, HO_10, HO_39, HB⟩ := hrel; have hl39_2 := (Kd.R_reads' HO_39.out).1; rw [hl39_2] at HO_39; (try simp only [hl39_2])
        (try simp only [hl39_2] at HO_8)
        (try simp only [hl39_2] at HO_10)
        cases gk with
        | zero => exact absurd HA.out (by simp [impl_CastTake.l1])
        | succ k2 =>
         have H := HA.out; clear HA; simp only [impl_CastTake.l1] at H; by_cases c26 : x41_2 < (t231.length : Int)
         ·rw [if_pos c26] at H
          have c26b0 : decide (x41_2 < (t231.length : Int)) = true := decide_eq_true c26; try (have c26b0d0 := c26b0; rw [hl6_1] at c26b0d0)
          try (have c26b0d1 := c26b0; rw [hl39_2] at c26b0d1)
          clear c26; by_cases c27 : 0 ≤ x41_2
          ·rw [if_pos c27] at H
           have c27b0 : decide (0 ≤ x41_2) = true := decide_eq_true c27; clear c27; by_cases c28 : x41_2 < (t234.length : Int)
           ·rw [if_pos c28] at H
            have c28b0 : decide (x41_2 < (t234.length : Int)) = true := decide_eq_true c28; try (have c28b0d0 := c28b0; rw [hl6_1] at c28b0d0)
            try (have c28b0d1 := c28b0; rw [hl39_2] at c28b0d1)
            clear c28; by_cases c29 : 0 ≤ (rd t234 x41_2)
            ·rw [if_pos c29] at H
             have c29b0 : decide (0 ≤ (rd t234 x41_2)) = true := decide_eq_true c29; clear c29; by_cases c30 : (rd t234 x41_2) < (x8_2.length : Int)
             ·rw [if_pos c30] at H
              have c30b0 : decide ((rd t234 x41_2) < (x8_2.length : Int)) = true := decide_eq_true c30; clear c30; by_cases c31 : x10_2.length < 4398046511104
              ·rw [if_pos c31] at H
               have LMc31 := Zz.mk c31; clear c31; obtain ⟨y237, hy237⟩ : ∃ y_ : List (S40), y_ = (x10_2 ++ [(⟨(rd_T42 x8_2 (rd t234 x41_2)).f0.f0, (rd_T42 x8_2 (rd t234 x41_2)).f0.f1, (rd_T42 x8_2 (rd t234 x41_2)).f0.f2, (rd_T42 x8_2 (rd t234 x41_2)).f0.f3⟩ : S40)]) := ⟨_, rfl⟩
               replace H : (impl_CastTake.l1 k2 (x8_2.set ((rd t234 x41_2) : Int).toNat (⟨(⟨(rd_T42 x8_2 (rd t234 x41_2)).f0.f0, (rd_T42 x8_2 (rd t234 x41_2)).f0.f1, (rd_T42 x8_2 (rd t234 x41_2)).f0.f2, (rd_T42 x8_2 (rd t234 x41_2)).f0.f3⟩ : S40), wrap64 (((rd_T42 x8_2 (rd t234 x41_2)).f1) - 1)⟩ : S42)) y237 t234 (t231.length : Int) (wrap64 (x41_2 + 1))) = some (r1, r2) := by first | (rw [hy237]; with_reducible exact H) | (replace H := (Option.bind_some _ _).symm.trans H; first | (rw [hy237]; with_reducible exact H) | with_reducible exact H) | with_reducible exact H | (rw [hy237]; exact H) | exact H
               have Ny237 := Zz.mk hy237; clear hy237; obtain ⟨y241, hy241⟩ : ∃ y_ : List (S42), y_ = (x8_2.set ((rd t234 x41_2) : Int).toNat (⟨(⟨(rd_T42 x8_2 (rd t234 x41_2)).f0.f0, (rd_T42 x8_2 (rd t234 x41_2)).f0.f1, (rd_T42 x8_2 (rd t234 x41_2)).f0.f2, (rd_T42 x8_2 (rd t234 x41_2)).f0.f3⟩ : S40), wrap64 (((rd_T42 x8_2 (rd t234 x41_2)).f1) - 1)⟩ : S42)) := ⟨_, rfl⟩
               replace H : (impl_CastTake.l1 k2 y241 y237 t234 (t231.length : Int) (wrap64 (x41_2 + 1))) = some (r1, r2) := by first | (rw [hy241]; with_reducible exact H) | (replace H := (Option.bind_some _ _).symm.trans H; first | (rw [hy241]; with_reducible exact H) | with_reducible exact H) | with_reducible exact H | (rw [hy241]; exact H) | exact H
               have Ny241 := Zz.mk hy241; clear hy241; have H' := Zz.mk H; clear H; have p235 : 0 ≤ (x41_2 : Int) := of_decide_eq_true (by first | (with_reducible assumption) | assumption); have q235 : x41_2 < (t234.length : Int) := of_decide_eq_true (by first | (with_reducible assumption) | assumption); obtain ⟨ad235, e235, hx235_0⟩ := Kd.at_int (Kd.R_reads' HO_39.out).2.2 x41_2 p235 q235; cases e235
               replace p235 := eq_true p235; replace q235 := eq_true q235; obtain ⟨Ao33, co33, eo33⟩ := Kd.R_slice HO_8.out; subst eo33; have p236 : 0 ≤ ((rd t234 x41_2) : Int) := of_decide_eq_true (by first | (with_reducible assumption) | assumption); have q236 : (rd t234 x41_2) < (x8_2.length : Int) := of_decide_eq_true (by first | (with_reducible assumption) | assumption); obtain ⟨ad236, e236, hx236_0, hx236_1, hx236_2, hx236_3, hx236_4⟩ := at_T42 (Kd.R_reads' HO_8.out).2.2 (rd t234 x41_2) p236 q236; cases e236
               replace p236 := eq_true p236; replace q236 := eq_true q236; go_wp2_with (first | ((with_reducible refine gate_builtin (b := .append) (xs := #[.tmp 45, .tmp 51]) rfl ?_); at_builtin; refine Kd.R_append k40 (w0 := w) w.heap.size rfl (.tmp 45) (.tmp 51) 24 40 (.agg #[(.int .i64 0), (.int .i64 0), (.int .i64 0), (.bool false)]) 32 rfl Try.underlying24 info40 rfl (by decide) (by omega) u10 x10_2 (⟨(rd_T42 x8_2 (rd t234 x41_2)).f0.f0, (rd_T42 x8_2 (rd t234 x41_2)).f0.f1, (rd_T42 x8_2 (rd t234 x41_2)).f0.f2, (rd_T42 x8_2 (rd t234 x41_2)).f0.f3⟩ : S40) [.int .i64 ((rd_T42 x8_2 (rd t234 x41_2)).f0.f0), .int .i64 ((rd_T42 x8_2 (rd t234 x41_2)).f0.f1), .int .i64 ((rd_T42 x8_2 (rd t234 x41_2)).f0.f2), .bool ((rd_T42 x8_2 (rd t234 x41_2)).f0.f3)] (fun _ => True) (fun _ => False) rfl rfl ?aP (fun _ hk => hk.elim) ?aF ?aO ?aB ?aS ?aL ?_; (case aP => exact k40_mkM _ _ _ (⟨(rd_T42 x8_2 (rd t234 x41_2)).f0.f0, (rd_T42 x8_2 (rd t234 x41_2)).f0.f1, (rd_T42 x8_2 (rd t234 x41_2)).f0.f2, (rd_T42 x8_2 (rd t234 x41_2)).f0.f3⟩ : S40)); (case aB => exact (by repeat (first | (with_reducible first | exact HB.out | apply bwA | apply pwN | apply bw1) | exact HB.out))); (case aF => exact (fun _ _ => trivial)); (case aO => exact (by (with_reducible repeat (first | apply Kd.RA | apply Kd.RN | apply Kd.RD)); exact HO_10.out)); (case aS => exact (bwZ (by repeat (first | (with_reducible first | exact HB.out | apply bwA | apply pwN | apply bw1) | exact HB.out)))); (case aL => have := LMc31.out; omega); intro v238 w34 ho hb hg hat; rw [← Ny237.out] at ho; have n0_ := Zz.mk (Kd.R_over' (by (with_reducible repeat (first | apply Kd.RA | apply Kd.RN | apply Kd.RD)); exact HO_8.out) (Kd.R_typed (by (with_reducible repeat (first | apply Kd.RA | apply Kd.RN | apply Kd.RD)); exact HO_10.out)) (by decide) hg); have n1_ := Zz.mk (Kd.R_over' (by (with_reducible repeat (first | apply Kd.RA | apply Kd.RN | apply Kd.RD)); exact HO_39.out) (Kd.R_typed (by (with_reducible repeat (first | apply Kd.RA | apply Kd.RN | apply Kd.RD)); exact HO_10.out)) (by decide) hg); have n2_ := Zz.mk (hb); have n3_ := Zz.mk (ho); clear HO_8; clear HO_39; clear HB; clear HO_10; have HO_8 := n0_; have HO_39 := n1_; have HB := n2_; have HO239 := n3_; clear n0_ n1_ n2_ n3_; clear ho hb hg hat; have p240 : 0 ≤ ((rd t234 x41_2) : Int) := of_decide_eq_true (by first | (with_reducible assumption) | assumption); have q240 : (rd t234 x41_2) < (x8_2.length : Int) := of_decide_eq_true (by first | (with_reducible assumption) | assumption); obtain ⟨ad240, e240, hx240_0, hx240_1, hx240_2, hx240_3, hx240_4⟩ := at_T42 (Kd.R_reads' HO_8.out).2.2 (rd t234 x41_2) p240 q240; obtain rfl : ad236 = ad240 := (by injection e240); replace p240 := eq_true p240; replace q240 := eq_true q240; have p32 : 0 ≤ ((rd t234 x41_2) : Int) := of_decide_eq_true (by first | (with_reducible assumption) | assumption); have q32 : ((rd t234 x41_2) : Int) < ((x8_2.length : Int) : Int) := of_decide_eq_true (by first | (with_reducible assumption) | assumption); obtain ⟨go32, co32, eo32, gb32, gl32, cl32, HG32⟩ := Kd.R_form HO_8.out (by omega); (first | cases eo32 | (injection eo32 with ea_ en_ ec_; (first | subst ea_ | (injection ea_ with ea_; subst ea_)); subst ec_; clear en_)); have GB32 := Zz.mk gb32; have GG32 := Zz.mk HG32; clear gb32 gl32 HG32; (first | simp only [add_plain] at hx236_0 | skip); (first | simp only [add_plain] at hx236_1 | skip); (first | simp only [add_plain] at hx236_2 | skip); (first | simp only [add_plain] at hx236_3 | skip); (first | simp only [add_plain] at hx236_4 | skip); (first | simp only [add_plain] at hx240_0 | skip); (first | simp only [add_plain] at hx240_1 | skip); (first | simp only [add_plain] at hx240_2 | skip); (first | simp only [add_plain] at hx240_3 | skip); (first | simp only [add_plain] at hx240_4 | skip); obtain ⟨ce32, hcl32, hM32, hcc32, hfr32⟩ := Kd.R_elem HO_8.out z42 ((rd t234 x41_2) : Int) p32 q32; obtain rfl := k42_openM hM32; have hx32_0 : w34.cell? ⟨go32, ((rd t234 x41_2) : Int).toNat * 5, none⟩ = some (.int .i64 ((rd_T42 x8_2 (rd t234 x41_2)).f0.f0)) := hcc32 0 _ rfl; have hx32_1 : w34.cell? ⟨go32, ((rd t234 x41_2) : Int).toNat * 5 + 1, none⟩ = some (.int .i64 ((rd_T42 x8_2 (rd t234 x41_2)).f0.f1)) := hcc32 1 _ rfl; have hx32_2 : w34.cell? ⟨go32, ((rd t234 x41_2) : Int).toNat * 5 + 2, none⟩ = some (.int .i64 ((rd_T42 x8_2 (rd t234 x41_2)).f0.f2)) := hcc32 2 _ rfl; have hx32_3 : w34.cell? ⟨go32, ((rd t234 x41_2) : Int).toNat * 5 + 3, none⟩ = some (.bool ((rd_T42 x8_2 (rd t234 x41_2)).f0.f3)) := hcc32 3 _ rfl; have hx32_4 : w34.cell? ⟨go32, ((rd t234 x41_2) : Int).toNat * 5 + 4, none⟩ = some (.int .i64 ((rd_T42 x8_2 (rd t234 x41_2)).f1)) := hcc32 4 _ rfl; have hf32_0 : w34.frozen? ⟨go32, ((rd t234 x41_2) : Int).toNat * 5, none⟩ = false := hfr32 0; have hf32_1 : w34.frozen? ⟨go32, ((rd t234 x41_2) : Int).toNat * 5 + 1, none⟩ = false := hfr32 1; have hf32_2 : w34.frozen? ⟨go32, ((rd t234 x41_2) : Int).toNat * 5 + 2, none⟩ = false := hfr32 2; have hf32_3 : w34.frozen? ⟨go32, ((rd t234 x41_2) : Int).toNat * 5 + 3, none⟩ = false := hfr32 3; have hf32_4 : w34.frozen? ⟨go32, ((rd t234 x41_2) : Int).toNat * 5 + 4, none⟩ = false := hfr32 4; clear hcl32 hcc32 hfr32 hM32; replace p32 := eq_true p32; replace q32 := eq_true q32; have HX35 := Zz.mk (show Kd.R k42 42 w34 w.heap.size (fun _ => True) (.slice (some ⟨go32, 0, none⟩) x8_2.length co33) x8_2 from (by (with_reducible repeat (first | apply Kd.RA | apply Kd.RN | apply Kd.RD)); exact HO_8.out)); obtain ⟨ce35, hcl35, hM35, hcc35, hfr35⟩ := Kd.R_elem HX35.out z42 ((rd t234 x41_2) : Int) (of_decide_eq_true (by first | (with_reducible assumption) | assumption)) (by have h_ : ((rd t234 x41_2) : Int) < ((x8_2.length : Int) : Int) := of_decide_eq_true (by first | (with_reducible assumption) | assumption); first | exact h_ | (have e_ := (Kd.R_reads' HO_8.out).1; omega) | simpa using h_); obtain rfl := k42_openM hM35; have HP35 := Kd.R_seg HX35.out ((rd t234 x41_2) : Int) (of_decide_eq_true (by first | (with_reducible assumption) | assumption)) (by have h_ : ((rd t234 x41_2) : Int) < ((x8_2.length : Int) : Int) := of_decide_eq_true (by first | (with_reducible assumption) | assumption); first | exact h_ | (have e_ := (Kd.R_reads' HO_8.out).1; omega) | simpa using h_) (seg := [.int .i64 (wrap64 (((rd_T42 x8_2 (rd t234 x41_2)).f1) - 1))]) (j := 4) hcl35 hcc35 (show 5 ≤ 5 from by decide) (x' := (⟨(⟨(rd_T42 x8_2 (rd t234 x41_2)).f0.f0, (rd_T42 x8_2 (rd t234 x41_2)).f0.f1, (rd_T42 x8_2 (rd t234 x41_2)).f0.f2, (rd_T42 x8_2 (rd t234 x41_2)).f0.f3⟩ : S40), wrap64 (((rd_T42 x8_2 (rd t234 x41_2)).f1) - 1)⟩ : S42)) (k42_mkM _ _ _ (⟨(⟨(rd_T42 x8_2 (rd t234 x41_2)).f0.f0, (rd_T42 x8_2 (rd t234 x41_2)).f0.f1, (rd_T42 x8_2 (rd t234 x41_2)).f0.f2, (rd_T42 x8_2 (rd t234 x41_2)).f0.f3⟩ : S40), wrap64 (((rd_T42 x8_2 (rd t234 x41_2)).f1) - 1)⟩ : S42) ) (fun _ hk => hk); have hx35_4 := hcc35 4 _ rfl; (try simp only [show (k42).sz = 5 from rfl, Nat.mul_one, Nat.add_zero] at hx35_4); have hf35_4 := hfr35 4; (try simp only [show (k42).sz = 5 from rfl, Nat.mul_one, Nat.add_zero] at hf35_4); clear hcl35 hcc35 hfr35 hM35) | ((with_reducible refine gate_store (t := 3) (p := 60) rfl ?_); refine store_event (t := 3) (p := 60) (v := ?vo_w36) (w1 := (w34.setCell ⟨go32, ((rd t234 x41_2) : Int).toNat * 5 + 4, none⟩ (.int .i64 (wrap64 (((rd_T42 x8_2 (rd t234 x41_2)).f1) - 1))))) ?hg ?ho ?hn ?hr ?_; (case ho => rfl); (case hg => rfl); (case hn => rfl); (case hr => first | (go_simp; done) | (go_simp; rfl)); intro w36 hw; have hg : w34.grownBy w36 (some go32) := (by rw [hw]; exact HP35.2); have hp_ : Kd.R k42 42 w36 w.heap.size (fun _ => True) (.slice (some ⟨go32, 0, none⟩) x8_2.length co33) y241 := (by rw [hw, Ny241.out]; exact HP35.1); clear HP35; have n0_ := Zz.mk (hp_); have n1_ := Zz.mk (Kd.R_over' (v := (.slice (some ⟨go32, 0, none⟩) x8_2.length co33)) (by (with_reducible repeat (first | apply Kd.RA | apply Kd.RN | apply Kd.RD)); exact HO_39.out) (Kd.R_typed HO_8.out) (by decide) hg); have n2_ := Zz.mk (Kd.R_over' (v := (.slice (some ⟨go32, 0, none⟩) x8_2.length co33)) (by (with_reducible repeat (first | apply Kd.RA | apply Kd.RN | apply Kd.RD)); exact HO239.out) (Kd.R_typed HO_8.out) (by decide) hg); have n3_ := Zz.mk ((by rw [hw]; exact bwS (HB.out) GB32.out : Below w.heap.size w w36)); clear HO_8; clear HO_39; clear HO239; clear HB; have HO_8 := n0_; have HO_39 := n1_; have HO239 := n2_; have HB := n3_; clear n0_ n1_ n2_ n3_; clear hg hw hp_))
               (try simp only [← hl39_2])
               go_roundg k2
               case measure => have := HK1.out; have := HK2.out; omega
               case rel => exact ⟨(y241), (y237), (wrap64 (x41_2 + 1)), (by first | rfl | (simp; done) | (simp [*]; done)), H', ⟨by have := HK1.out; have := HK2.out; omega⟩, ⟨by (try simp only [hl6_1]); (try simp only [hl39_2]); (with_reducible repeat (first | apply Kd.RA | apply Kd.RN | apply Kd.RD)); exact HO_8.out⟩, ⟨by (try simp only [hl6_1]); (try simp only [hl39_2]); (with_reducible repeat (first | apply Kd.RA | apply Kd.RN | apply Kd.RD)); exact HO239.out⟩, ⟨by (try simp only [hl6_1]); (try simp only [hl39_2]); (with_reducible repeat (first | apply Kd.RA | apply Kd.RN | apply Kd.RD)); exact HO_39.out⟩, ⟨by repeat (first | (with_reducible first | exact HB.out | apply bwA | apply pwN | apply bw1) | exact HB.out)⟩⟩
              ·rw [if_neg c31] at H; exact absurd H (by simp)
             ·rw [if_neg c30] at H; exact absurd H (by simp)
            ·rw [if_neg c29] at H; exact absurd H (by simp)
           ·rw [if_neg c28] at H; exact absurd H (by simp)
          ·rw [if_neg c27] at H; exact absurd H (by simp)
         ·rw [if_neg c26] at H
          have c26b0 : decide (x41_2 < (t231.length : Int)) = false := decide_eq_false c26; try (have c26b0d0 := c26b0; rw [hl6_1] at c26b0d0)
          try (have c26b0d1 := c26b0; rw [hl39_2] at c26b0d1)
          clear c26; replace H := Option.bind_eq_some_iff.mp H; obtain ⟨t242, A370, H⟩ := H; replace H : (some (x10_2, t242)) = some (r1, r2) := H; have A37 := Zz.mk A370; clear A370; simp only [Option.some.injEq, Prod.mk.injEq] at H; obtain ⟨rfl, rfl⟩ := H; obtain ⟨Ao38, co38, eo38⟩ := Kd.R_slice HO_8.out; subst eo38; go_wp2_with (first | ((with_reducible refine gate_callee (f := 28) rfl ?_); refine goesL_ (some 64) rfl rfl Try.func28 (by kernel_rfl) rfl #[.slice Ao38 x8_2.length co38, .func (.func 29) #[] #[]] rfl (by (try simp only [List.map_toArray, List.map_cons, List.map_nil]); first | done | rfl | (simp only [List.length_drop, List.length_take]; rfl)) ?_; (with_reducible refine (impl_Item_28.calls k2 (fun k_ => some k_ = (.slice Ao38 x8_2.length co38 : Value).ownBlock) (.slice Ao38 x8_2.length co38) x8_2 () t242 w _ ?side1 ?side2 A37.out).mono ?_); (case side1 => repeat (first | (with_reducible first | exact HB.out | apply bwA | apply pwN | apply bw1) | exact HB.out)); (case side2 => exact Kd.R_tight rfl HO_8.out); rintro e w39 ⟨v243, rfl, ho0, hb, hkp⟩; refine ⟨_, rfl, ?_⟩; have n0_ := Zz.mk (Kd.R_mono (ok' := fun k_ => True) (Kd.R_keptB ((Kd.R_apart' HO_10.out (Kd.R_typed HO_8.out) (by decide))) hkp (fun k_ hk_ hs_ => (hk_.2) hs_)) (fun k_ hk_ => trivial)); have n1_ := Zz.mk (Kd.R_mono (ok' := fun k_ => True) (Kd.R_keptB ((Kd.R_apart' HO_39.out (Kd.R_typed HO_8.out) (by decide))) hkp (fun k_ hk_ hs_ => (hk_.2) hs_)) (fun k_ hk_ => trivial)); have n2_ := Zz.mk (Kd.R_mono (ok' := fun k_ => True) ho0 (fun k_ hk_ => trivial)); have n3_ := Zz.mk (hb); clear HO_10; clear HO_39; clear HB; clear HO_8; have HO_10 := n0_; have HO_39 := n1_; have HO244 := n2_; have HB := n3_; clear n0_ n1_ n2_ n3_; (try clear hb); (try clear hkp); (try clear ho0); (try clear A37)))
          go_ret2
          exact ⟨_, _, by first | rfl | (simp [eN, eS] <;> rfl) | (simp [*, eN, eS] <;> rfl), by (with_reducible repeat (first | apply Kd.RA | apply Kd.RN | apply Kd.RD)); exact Kd.R_lower HO_10.out (bwZ HX.out), by (with_reducible repeat (first | apply Kd.RA | apply Kd.RN | apply Kd.RD)); exact Kd.R_lower HO244.out (bwZ HX.out), bwP HX.out (by repeat (first | (with_reducible first | exact HB.out | apply bwA | apply pwN | apply bw1) | exact HB.out))⟩
   ·rw [if_neg c6] at H; exact absurd H (by simp)
  ·rw [if_neg c5] at H; exact absurd H (by simp)
 ·replace c4 := Bool.eq_false_iff.mpr c4
  subst c4; have H1 : (some (([] : List (S40)), ([] : List (S42)))) = some (r1, r2) := by rw [if_neg (show ¬ (false = true) by decide)] at H; exact H
  clear H; have H := H1; clear H1; simp only [Option.some.injEq, Prod.mk.injEq] at H; obtain ⟨rfl, rfl⟩ := H; obtain ⟨wq_, rfl⟩ : ∃ x : World, x = w := ⟨_, rfl⟩
  go_enter Try.func9, Try.ntmps9; go_wp2_with (first | ((with_reducible refine gate_dst (N := 2) rfl ?_); refine box_event ?hg (N := 2) ?hd (cs := #[.slice A0 l0.length c0]) (t := 25) ?hr ?_; (case hd => rfl); (case hg => rfl); (case hr => first | (go_simp; done) | (go_simp; rfl)); intro cb hg w hbox hb; have HX := Zz.mk hb; have n0_ := Zz.mk (Kd.C_below HR0.out hb); clear HR0; have HR0 := n0_; clear HB; have HB := Zz.mk (Below.refl w.heap.size w); have hcq_ : w.cell? ⟨cb, 0, none⟩ = some (.slice A0 l0.length c0) := (bkC hbox 0).trans rfl; have HCB := Zz.mk hcq_; clear n0_ hb hbox hg) | ((with_reducible refine gate_callee (f := 19) rfl ?_); refine goesL_ (some 14) rfl rfl Try.func19 (by kernel_rfl) rfl #[.slice A0 l0.length c0] rfl (by (try simp only [List.map_toArray, List.map_cons, List.map_nil]); first | done | rfl | (simp only [List.length_drop, List.length_take]; rfl)) ?_; (with_reducible refine (impl_CastOk.calls k _ _ l0 false _ ?side1 ?side2 A3.out).mono ?_); (case side1 => repeat (first | exact HR0.out | (with_reducible refine Kd.CA ?_ _) | (with_reducible refine Kd.CN ?_ _) | (with_reducible refine Kd.CD ?_))); (case side2 => exact HC0.out); rintro e w40 ⟨rfl, hb⟩; refine ⟨_, rfl, ?_⟩; have n0_ := Zz.mk (bwP (by repeat (first | (with_reducible first | exact HB.out | apply bwA | apply pwN | apply bw1) | exact HB.out)) hb); clear HB; have HB := n0_; clear n0_; (try clear hb); (try clear A3); (try clear hcq_); have hcq_ : w40.cell? ⟨cb, 0, none⟩ = some (.slice A0 l0.length c0) := (bc HB.out HCB.out :)))
  go_ret2
  exact ⟨_, _, by first | rfl | (simp [eN, eS] <;> rfl) | (simp [*, eN, eS] <;> rfl), by first | exact Kd.R_nil _ _ _ _ _ | exact Kd.N_nil _ _ _ _ _ | exact Kd.V_nil _ _ _ _ _ | exact Kd.Q_nil _ _ _ _ _ | exact Kd.S_nil _ _ _ _ _, by first | exact Kd.R_nil _ _ _ _ _ | exact Kd.N_nil _ _ _ _ _ | exact Kd.V_nil _ _ _ _ _ | exact Kd.Q_nil _ _ _ _ _ | exact Kd.S_nil _ _ _ _ _, bwP HX.out (by repeat (first | (with_reducible first | exact HB.out | apply bwA | apply pwN | apply bw1) | exact HB.out))⟩

end Go.Proofs.Ytbibieonaceolaa.PFnCastAll
