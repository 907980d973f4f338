/- An argument of plain data is opened: its cells tell a value of the printed kinds, whatever structs and slices are nested in it. Conditions: none beyond the row's own. -/
import Derived.Deep.Slices
import Derived.ChangeArms
import Derived.Test.YtbibieonaceolaaVFnExactCastTake
set_option linter.unusedVariables false
namespace Go.Proofs.Ytbibieonaceolaa.Open
open Go.RowKit Go.ChangeShapes Go.WideShapes Go.Deep Go.Proofs.YtbibieonaceolaaW.PrintWords
/-- Whatever reads as data of type t is told by kind d, and F holds of what it tells. -/
structure Opens {α : Type} (P : Program) (d : Kd α) (t : TypeId) (F : α → Prop) : Prop where mk ::
  go : ∀ {H : Type} {enc : TypeId × Value → H} {w : World} {base : Nat} {spare : Nat → Bool} {held : Bool} {fuel : Nat} {cs : List Value} {x : DataW H × List MemPlace},
    DataW.trod enc P w base spare held fuel t cs = some x → ∃ a, d.K w a cs ∧ F a
theorem Opens.int {P : Program} {t : TypeId} {k : IntKind} (hu : P.underlying t = some (.int k)) : Opens P (Kd.int k) t (fun n => (Lit.int k n).wf = true) := by
  refine ⟨?_⟩
  intro H enc w base spare held fuel cs x h
  obtain ⟨n, hc, _, hw⟩ := DataW.trod_int hu h
  exact ⟨n, hc, hw⟩
theorem Opens.bool {P : Program} {t : TypeId} (hu : P.underlying t = some .bool) : Opens P Kd.bool t (fun _ => True) := by
  refine ⟨?_⟩
  intro H enc w base spare held fuel cs x h
  obtain ⟨b, hc, _⟩ := DataW.trod_bool hu h
  exact ⟨b, hc, trivial⟩
theorem Opens.string {P : Program} {t : TypeId} (hu : P.underlying t = some .string) : Opens P Kd.string t (fun s => s.size ≤ maxLen) := by
  refine ⟨?_⟩
  intro H enc w base spare held fuel cs x h
  obtain ⟨s, hc, _, hs⟩ := DataW.trod_string hu h
  exact ⟨s, hc, hs⟩
/-- Fields in line, from a place on. -/
structure OpensFields {α : Type} (P : Program) (d : Kd α) (fs : List Field) (off total : Nat) (F : α → Prop) : Prop where mk ::
  go : ∀ {H : Type} {enc : TypeId × Value → H} {w : World} {base : Nat} {spare : Nat → Bool} {held : Bool} {n : Nat} {cs : List Value},
    cs.length = total → (∀ f ∈ fs, ∃ y, DataW.trod enc P w base spare held n f.type ((cs.drop f.offset).take (P.cellsOf f.type)) = some y) → ∃ a, d.K w a (cs.drop off) ∧ F a
theorem OpensFields.last {α : Type} {P : Program} {d : Kd α} {f : Field} {off total : Nat} {F : α → Prop} (h : Opens P d f.type F) (ho : f.offset = off) (ht : off + P.cellsOf f.type = total) : OpensFields P d [f] off total F := by
  refine ⟨?_⟩
  intro H enc w base spare held n cs hl hf
  obtain ⟨y, hy⟩ := hf f (List.mem_singleton.2 rfl)
  rw [ho, List.take_of_length_le (by rw [List.length_drop]; omega)] at hy
  exact h.go hy
theorem OpensFields.cons {α β : Type} {P : Program} {d : Kd α} {d' : Kd β} {f : Field} {fs : List Field} {off off' total : Nat} {F : α → Prop} {F' : β → Prop} (h : Opens P d f.type F) (ho : f.offset = off) (ht : off + P.cellsOf f.type = off')
    (h' : OpensFields P d' fs off' total F') : OpensFields P (Kd.pair d d') (f :: fs) off total (fun x => F x.1 ∧ F' x.2) := by
  refine ⟨?_⟩
  intro H enc w base spare held n cs hl hf
  obtain ⟨y, hy⟩ := hf f (List.mem_cons_self ..)
  obtain ⟨a, hk, ha⟩ := h.go hy
  obtain ⟨b, hk', hb⟩ := h'.go hl (fun g hg => hf g (List.mem_cons_of_mem _ hg))
  refine ⟨(a, b), ⟨_, _, ?_, hk, hk'⟩, ha, hb⟩
  rw [ho, ← ht, ← List.drop_drop, List.take_append_drop]
theorem Opens.struct {α β : Type} {P : Program} {t : TypeId} {fs : Array Field} {d : Kd α} {g : β → α} {F : α → Prop} {F' : β → Prop} (hu : P.underlying t = some (.struct fs)) (h : OpensFields P d fs.toList 0 (P.cellsOf t) F)
    (hg : ∀ a, ∃ b, g b = a) (hF : ∀ b, F (g b) → F' b) : Opens P (Kd.iso d g) t F' := by
  refine ⟨?_⟩
  intro H enc w base spare held fuel cs x hx
  obtain ⟨xs, n, _, _, hl, hlen, hf⟩ := DataW.trod_struct hu hx
  obtain ⟨a, hk, ha⟩ := h.go hl (fun f hm => by
    obtain ⟨i, hi, he⟩ := List.mem_iff_getElem.1 hm
    have hi' : i < fs.size := by simpa using hi
    have hfi : fs[i]? = some f := by rw [← Array.getElem?_toList]; exact (List.getElem?_eq_getElem hi).trans (by rw [he])
    exact ⟨_, (hf i f hfi).trans (List.getElem?_eq_getElem (by omega))⟩)
  obtain ⟨b, rfl⟩ := hg a
  exact ⟨b, by show d.K w (g b) cs; simpa using hk, hF b ha⟩
theorem pick_list {α : Type} {p : Nat → α → Prop} : ∀ (n : Nat), (∀ i, i < n → ∃ a, p i a) → ∃ l : List α, l.length = n ∧ ∀ (i : Nat) (a : α), l[i]? = some a → p i a
  | 0, _ => ⟨[], rfl, fun i a h => by simp at h⟩
  | n + 1, h => by
    obtain ⟨l, hl, hp⟩ := pick_list n (fun i hi => h i (by omega))
    obtain ⟨a, ha⟩ := h n (by omega)
    refine ⟨l ++ [a], by simp [hl], fun i b hb => ?_⟩
    rcases Nat.lt_or_ge i l.length with hi | hi
    · rw [List.getElem?_append_left hi] at hb; exact hp i b hb
    · rw [List.getElem?_append_right hi] at hb
      have hz : i - l.length = 0 := by have := (List.getElem?_eq_some_iff.1 hb).1; simp at this; omega
      rw [hz] at hb
      have : a = b := by simpa using hb
      subst this
      rw [show i = n by omega]
      exact ha
theorem Opens.slice {α : Type} {P : Program} {t e : TypeId} {d : Kd α} {F : α → Prop} (hu : P.underlying t = some (.slice e)) (hsz : P.cellsOf e = d.sz) (h : Opens P d e F) : Opens P (Kd.slice e d) t (fun l => l.length ≤ maxLen ∧ ∀ x ∈ l, F x) := by
  refine ⟨?_⟩
  intro H enc w base spare held fuel cs x hx
  rcases open_slice hu hx with ⟨rfl, _⟩ | ⟨a, len, cap, m, n, D, Pl, rfl, _, hl, hm, hmm, _, hi⟩
  · exact ⟨[], ⟨none, 0, rfl, Nat.le_refl _, rfl, Nat.zero_le _, fun h => absurd h (Nat.lt_irrefl 0)⟩, by simp, fun x hx => by cases hx⟩
  · have hlm : len ≤ m := by rw [hmm]; split <;> omega
    obtain ⟨l, hll, hp⟩ := pick_list (p := fun i y => F y ∧ ∃ c, c.length = d.sz ∧ d.K w y c ∧ ∀ j u, c[j]? = some u → w.cell? (a.add (i * d.sz + j)) = some u) len (fun i hil => by
      obtain ⟨cs', hc, ht⟩ := hi i (by omega)
      obtain ⟨y, hk, hy⟩ := h.go ht
      obtain ⟨_, hcl, hat⟩ := World.cells?_some hc
      refine ⟨y, hy, cs', by rw [hcl, hsz], hk, fun j u hj => ?_⟩
      have hjl := (List.getElem?_eq_some_iff.1 hj).1
      rw [← hj, ← hat j (by omega), ← Go.Deep.add_add, hsz])
    refine ⟨l, ⟨some a, cap, by rw [hll], by omega, rfl, by unfold maxLen at hm; omega, fun _ => ⟨a, rfl, fun j p hj => (hp j p hj).2⟩⟩, by omega, fun x hx => ?_⟩
    obtain ⟨i, hi', he⟩ := List.mem_iff_getElem.1 hx
    exact (hp i x ((List.getElem?_eq_getElem hi').trans (by rw [he]))).1
/-- A struct that came in by value. -/
theorem open_agg {α : Type} {H : Type} {enc : TypeId × Value → H} {P : Program} {w : World} {base : Nat} {spare : Nat → Bool} {held : Bool} {r : Reach} {b0 : Nat} {t : TypeId} {fs : Array Field} {v : Value} {d : DataW H} {ps : List MemPlace} {k : Kd α} {F : α → Prop}
    (hu : P.underlying t = some (.struct fs)) (ho : Opens P k t F) (hv : Value.okWide P w r b0 t v) (h : DataW.Trod enc P w base spare held t v d ps) : ∃ (x : α) (cs : List Value), v = .agg cs.toArray ∧ k.K w x cs ∧ F x := by
  obtain ⟨cs, rfl, _⟩ := okWide_struct hu hv
  obtain ⟨fuel, hf⟩ := h
  obtain ⟨x, hk, hx⟩ := ho.go hf
  exact ⟨x, cs.toList, by simp, by simpa [Value.cells] using hk, hx⟩
/-- A slice that came in. -/
theorem open_row {α : Type} {H : Type} {enc : TypeId × Value → H} {P : Program} {w : World} {base : Nat} {spare : Nat → Bool} {held : Bool} {r : Reach} {b0 : Nat} {t e : TypeId} {v : Value} {d : DataW H} {ps : List MemPlace} {k : Kd α} {F : α → Prop}
    (hu : P.underlying t = some (.slice e)) (hsz : P.cellsOf e = k.sz) (ho : Opens P k e F) (hv : Value.okWide P w r b0 t v) (h : DataW.Trod enc P w base spare held t v d ps) :
    ∃ (A : Option Addr) (c : Nat) (l : List α), v = .slice A l.length c ∧ l.length ≤ c ∧ k.C w A l.length l ∧ l.length ≤ maxLen ∧ ∀ x ∈ l, F x := by
  obtain ⟨a, len, cap, rfl⟩ := okWide_slice hu hv
  obtain ⟨fuel, hf⟩ := h
  obtain ⟨l, ⟨A, c, hc, hl, hC⟩, hm, hx⟩ := (Opens.slice hu hsz ho).go hf
  simp [Value.cells] at hc
  obtain ⟨rfl, rfl, rfl⟩ := hc
  exact ⟨a, cap, l, rfl, hl, hC, hm, hx⟩
end Go.Proofs.Ytbibieonaceolaa.Open
