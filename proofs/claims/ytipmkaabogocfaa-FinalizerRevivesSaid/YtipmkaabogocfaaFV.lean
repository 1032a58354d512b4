/-
  What references alone reach survives a cycle of layer 27. No condition but those that each law says.
-/
import Derived.Test.YtipmkaabogocfaaFR
set_option linter.unusedSimpArgs false
set_option linter.unusedVariables false
namespace Go.Proofs.Ytipmkaabogocfaa
open Go.S
/-- Reached by references alone. -/
inductive Rr (l : List Ob) (S : List Int) : Int → Prop
  | base {x : Int} : x ∈ S → Rr l S x
  | step {x y : Int} {o : Ob} : Rr l S x → fnd l x = some o → y ∈ o.refs → Rr l S y
theorem rr_closed {l : List Ob} {S R : List Int} {p : Int → Prop} (hk : Closed l R p) (hS : ∀ x ∈ S, x ∈ R) {x : Int} (h : Rr l S x) : Is l x → p x := by
  induction h with
  | base hx => exact fun hi => hk.roots _ (hS _ hx) hi
  | step hr hf hy ih => exact fun hi => hk.kept _ _ (ih (by rw [Is, hf]; rfl)) hf _ (by unfold keptO; exact List.mem_append_left _ hy) hi
theorem rr_alive {l : List Ob} {S R : List Int} (hc : chk 0 l = true) (hS : ∀ x ∈ S, x ∈ R) {x : Int} (h : Rr l S x) (hi : Is l x) : x ∈ aliveR l R :=
  (mem_alive hc x).2 (rr_closed (all_closed (chk_asc hc) R) hS h hi)
theorem unv_fnd {A : List Int} {z : Int} {o : Ob} : ∀ {l l1 : List Ob}, l1.map Ob.c = l.map (unv A) → fnd l z = some o → ∃ o', fnd l1 z = some o' ∧ o'.refs = o.refs
  | [], l1, h, hf => by cases hf
  | x :: r, l1, h, hf => by
    cases l1 with
    | nil => cases h
    | cons y s =>
      have h1 := (List.cons.inj h).1; have h2 := (List.cons.inj h).2
      have e1 : y.id = x.id := congrArg (fun q : Core => q.1) h1
      have e2 : y.refs = x.refs := congrArg (fun q : Core => q.2.2.2.1) h1
      unfold fnd at hf ⊢
      rw [List.find?_cons] at hf ⊢
      rw [e1]
      by_cases hz : x.id = z
      · rw [decide_eq_true hz] at hf ⊢
        injection hf with hf; subst hf; exact ⟨y, rfl, e2⟩
      · rw [decide_eq_false hz] at hf ⊢
        exact unv_fnd h2 hf
theorem rr_unv {A S : List Int} {l l1 : List Ob} (h : l1.map Ob.c = l.map (unv A)) {x : Int} (hr : Rr l S x) : Rr l1 S x := by
  induction hr with
  | base hx => exact .base hx
  | step _ hf hy ih =>
    obtain ⟨o', h1, h2⟩ := unv_fnd h hf
    exact .step ih h1 (by rw [h2]; exact hy)
theorem unv_is {A : List Int} {l l1 : List Ob} (h : l1.map Ob.c = l.map (unv A)) {x : Int} (hi : Is l x) : Is l1 x := by
  obtain ⟨o, ho⟩ := Option.isSome_iff_exists.1 hi
  obtain ⟨o', h1, _⟩ := unv_fnd h ho
  rw [Is, h1]; rfl
/-- What the roots and the pending objects reach. -/
theorem rr_cyc {l : List Ob} {R reg pend S : List Int} (hc : chk 0 l = true) (hS : ∀ x ∈ S, x ∈ R ++ cycP l R reg pend) {x : Int} (h : Rr l S x) (hi : Is l x) : x ∈ cycB l R reg pend := by
  have h1 := cyc1_c l R
  exact rr_alive ((unv_chk h1).trans hc) hS (rr_unv h1 h) (unv_is h1 hi)
theorem unv_ids {A : List Int} {l l1 : List Ob} (h : l1.map Ob.c = l.map (unv A)) : l1.map Ob.id = l.map Ob.id := by
  have := congrArg (List.map fun q : Core => q.1) h
  rw [List.map_map, List.map_map] at this
  exact this
theorem cycO_ids {l l2 : List Ob} {R reg pend : List Int} (h : l2.map Ob.c = cycO l R reg pend) : l2.map Ob.id = (l.map Ob.id).filter fun x => decide (x ∈ cycB l R reg pend) := by
  unfold cycO at h
  rw [coll_ids h, unv_ids (cyc1_c l R)]
theorem cyc_lens {l l2 : List Ob} {R reg pend : List Int} (h : l2.map Ob.c = cycO l R reg pend) : l2.length + (cycF l R reg pend).length = l.length := by
  have h1 := congrArg List.length (cycO_ids h)
  rw [List.length_map] at h1
  have h2 := List.length_eq_countP_add_countP (fun x => decide (x ∈ cycB l R reg pend)) (l := l.map Ob.id)
  rw [List.length_map] at h2
  unfold cycF
  rw [h1, ← List.countP_eq_length_filter, ← List.countP_eq_length_filter, h2]
  congr 1
  apply List.countP_congr
  intro x _; simp
theorem cyc_found {l l2 : List Ob} {R reg pend : List Int} (h : l2.map Ob.c = cycO l R reg pend) {x : Int} (hi : Is l x) (hx : x ∈ cycB l R reg pend) : x ∈ l2.map Ob.id := by
  rw [cycO_ids h, List.mem_filter]
  obtain ⟨o, ho⟩ := Option.isSome_iff_exists.1 hi
  obtain ⟨h1, h2⟩ := fnd_id ho
  exact ⟨List.mem_map.2 ⟨o, h2, h1⟩, decide_eq_true hx⟩
theorem findI_pos {l : List Ob} {x : Int} (h : x ∈ l.map Ob.id) : 0 ≤ findI l x := by
  unfold findI
  cases hf : (l.map Ob.id).findIdx? (fun y => decide (y = x)) with
  | none => have := List.findIdx?_eq_none_iff.1 hf x h; simp at this
  | some j => simp
end Go.Proofs.Ytipmkaabogocfaa
