/-
  What is alive depends on what objects are, not on where they lie; the result of a cycle of layer 27 in plain Lean. No condition but those that each law says.
-/
import Derived.Test.YtipmkaabogocfaaF2
import Derived.Test.YtipmkaabogocfaaGC
set_option linter.unusedSimpArgs false
set_option linter.unusedVariables false
namespace Go.Proofs.Ytipmkaabogocfaa
open Go.S
theorem map_c_cons {x : Ob} {r l' : List Ob} (h : (x :: r).map Ob.c = l'.map Ob.c) : ∃ y r', l' = y :: r' ∧ x.c = y.c ∧ r.map Ob.c = r'.map Ob.c := by
  cases l' with
  | nil => cases h
  | cons y r' => exact ⟨y, r', rfl, (List.cons.inj h).1, (List.cons.inj h).2⟩
section
variable {x y : Ob}
theorem c_id (h : x.c = y.c) : x.id = y.id := congrArg (fun q : Core => q.1) h
theorem c_size (h : x.c = y.c) : x.size = y.size := congrArg (fun q : Core => q.2.1) h
theorem c_weak (h : x.c = y.c) : x.weak = y.weak := congrArg (fun q : Core => q.2.2.1) h
theorem c_refs (h : x.c = y.c) : x.refs = y.refs := congrArg (fun q : Core => q.2.2.2.1) h
theorem c_ents (h : x.c = y.c) : x.ents = y.ents := congrArg (fun q : Core => q.2.2.2.2) h
theorem kept_c (h : x.c = y.c) : keptO x = keptO y := by unfold keptO; rw [c_refs h, c_ents h, c_weak h]
theorem clr_c (A : List Int) (h : x.c = y.c) : clr A x = clr A y := by unfold clr; rw [c_id h, c_size h, c_weak h, c_refs h, c_ents h]
theorem unv_c (A : List Int) (h : x.c = y.c) : unv A x = unv A y := by unfold unv unvB; rw [c_id h, c_size h, c_weak h, c_refs h, c_ents h]
end
theorem map_of_c {β : Type} {f : Ob → β} (hf : ∀ x y : Ob, x.c = y.c → f x = f y) : ∀ {l l' : List Ob}, l.map Ob.c = l'.map Ob.c → l.map f = l'.map f
  | [], l', h => by rw [List.map_eq_nil_iff.1 h.symm]
  | x :: r, l', h => by
    obtain ⟨y, r', rfl, h1, h2⟩ := map_c_cons h
    rw [List.map_cons, List.map_cons, hf x y h1, map_of_c hf h2]
theorem chk_c : ∀ {l l' : List Ob} {last : Int}, l.map Ob.c = l'.map Ob.c → chk last l = chk last l'
  | [], l', last, h => by rw [List.map_eq_nil_iff.1 h.symm]
  | x :: r, l', last, h => by
    obtain ⟨y, r', rfl, h1, h2⟩ := map_c_cons h
    simp only [chk]; rw [c_id h1, c_size h1, c_weak h1, chk_c h2]
theorem fnd_c {z : Int} {o : Ob} : ∀ {l l' : List Ob}, l.map Ob.c = l'.map Ob.c → fnd l z = some o → ∃ o', fnd l' z = some o' ∧ o'.c = o.c
  | [], l', h, hf => by cases hf
  | x :: r, l', h, hf => by
    obtain ⟨y, r', rfl, h1, h2⟩ := map_c_cons h
    unfold fnd at hf ⊢
    rw [List.find?_cons] at hf ⊢
    rw [← c_id h1]
    by_cases hz : x.id = z
    · rw [decide_eq_true hz] at hf ⊢
      injection hf with hf; subst hf; exact ⟨y, rfl, h1.symm⟩
    · rw [decide_eq_false hz] at hf ⊢
      exact fnd_c h2 hf
theorem is_c {l l' : List Ob} {z : Int} (h : l.map Ob.c = l'.map Ob.c) (hi : Is l z) : Is l' z := by
  obtain ⟨o, ho⟩ := Option.isSome_iff_exists.1 hi
  obtain ⟨o', h1, _⟩ := fnd_c h ho
  rw [Is, h1]; rfl
theorem closed_c {l l' : List Ob} {R : List Int} {p : Int → Prop} (h : l.map Ob.c = l'.map Ob.c) (k : Closed l R p) : Closed l' R p := by
  refine ⟨fun r hr hi => k.roots r hr (is_c h.symm hi), fun x o hp hf z hz hi => ?_, fun x o hp hf hw e he hk hi => ?_⟩
  · obtain ⟨o', h1, h2⟩ := fnd_c h.symm hf
    exact k.kept x o' hp h1 z (by rw [kept_c h2]; exact hz) (is_c h.symm hi)
  · obtain ⟨o', h1, h2⟩ := fnd_c h.symm hf
    exact k.eph x o' hp h1 ((c_weak h2).trans hw) e (by rw [c_ents h2]; exact he) hk (is_c h.symm hi)
theorem mem_alive' {l : List Ob} {R : List Int} (hc : chk 0 l = true) (x : Int) : x ∈ aliveR l R ↔ x ∈ (allR l R).1 := by
  rw [aliveR_ok hc]; exact mem_live (all_good l R).clo x
/-- Two sorted lists with the same members. -/
theorem asc_ext {A B : List Int} (hA : A.Pairwise (· < ·)) (hB : B.Pairwise (· < ·)) (h : ∀ x, x ∈ A ↔ x ∈ B) : A = B := by
  have hp : A.Perm B := (List.perm_ext_iff_of_nodup (hA.imp fun h => by omega) (hB.imp fun h => by omega)).2 h
  rw [← srt_asc hA, ← srt_asc hB]; exact srt_perm hp
theorem alive_of {l l' : List Ob} {R R' : List Int} (hc : chk 0 l = chk 0 l') (h1 : ∀ p, Closed l R p → Closed l' R' p) (h2 : ∀ p, Closed l' R' p → Closed l R p) : aliveR l R = aliveR l' R' := by
  cases hk : chk 0 l with
  | false => rw [aliveR_bad hk, aliveR_bad (hc ▸ hk)]
  | true =>
    have hk' : chk 0 l' = true := hc ▸ hk
    refine asc_ext (alive_asc _ _) (alive_asc _ _) fun x => ?_
    rw [mem_alive' hk, mem_alive' hk']
    exact ⟨least_all (chk_asc hk) (h2 _ (all_closed (chk_asc hk') R')) x, least_all (chk_asc hk') (h1 _ (all_closed (chk_asc hk) R)) x⟩
theorem alive_c {l l' : List Ob} (R : List Int) (h : l.map Ob.c = l'.map Ob.c) : aliveR l R = aliveR l' R := alive_of (chk_c h) (fun _ => closed_c h) (fun _ => closed_c h.symm)
theorem alive_roots {l : List Ob} {R R' : List Int} (h1 : ∀ r ∈ R, Is l r → r ∈ R') (h2 : ∀ r ∈ R', Is l r → r ∈ R) : aliveR l R = aliveR l R' :=
  alive_of rfl (fun p k => ⟨fun r hr hi => k.roots r (h2 r hr hi) hi, k.kept, k.eph⟩) (fun p k => ⟨fun r hr hi => k.roots r (h1 r hr hi) hi, k.kept, k.eph⟩)
/-! ### A cycle -/
def mkOb (c : Core) : Ob := ⟨c.1, c.2.1, c.2.2.1, ⟨none, 0, 0⟩, ⟨none, 0, 0⟩, c.2.2.2.1, c.2.2.2.2⟩
theorem mkOb_map (L : List Core) : (L.map mkOb).map Ob.c = L := by rw [List.map_map]; exact List.map_id'' (fun _ => rfl) L
section
variable (l : List Ob) (R reg pend : List Int)
def cyc1 : List Ob := (l.map (unv (aliveR l R))).map mkOb
def cycR : List Int := stayL (aliveR l R) reg
def cycP : List Int := pend ++ sepL (aliveR l R) reg
def cycB : List Int := aliveR (cyc1 l R) (R ++ cycP l R reg pend)
def cycO : List Core := lastL (cycB l R reg pend) ((cyc1 l R).map (clr (cycB l R reg pend)))
def cycF : List Int := (l.map Ob.id).filter fun x => !decide (x ∈ cycB l R reg pend)
end
section
variable {l l1 : List Ob} {A : List Int}
theorem unv_len (h : l1.map Ob.c = l.map (unv A)) : l1.length = l.length := by have := congrArg List.length h; simpa using this
theorem unv_mem (h : l1.map Ob.c = l.map (unv A)) {x : Ob} (hx : x ∈ l1) : ∃ y ∈ l, x.c = unv A y := by
  have h1 : x.c ∈ l1.map Ob.c := List.mem_map.2 ⟨x, hx, rfl⟩
  rw [h] at h1
  obtain ⟨y, hy, e⟩ := List.mem_map.1 h1
  exact ⟨y, hy, e.symm⟩
theorem unv_small (h : l1.map Ob.c = l.map (unv A)) (hs : ∀ o ∈ l, o.refs.length ≤ 400 ∧ o.ents.length ≤ 400) : ∀ o ∈ l1, o.refs.length ≤ 400 ∧ o.ents.length ≤ 400 := fun x hx => by
  obtain ⟨y, hy, e⟩ := unv_mem h hx
  have e1 : x.refs = y.refs := congrArg (fun q : Core => q.2.2.2.1) e
  have e2 : x.ents = if unvB A y = true then y.ents.filter (valB A) else y.ents := congrArg (fun q : Core => q.2.2.2.2) e
  have := hs y hy
  rw [e1, e2]
  split
  · have := List.length_filter_le (valB A) y.ents; omega
  · exact this
theorem unv_chk : ∀ {l l1 : List Ob} {last : Int}, l1.map Ob.c = l.map (unv A) → chk last l1 = chk last l
  | [], l1, last, h => by rw [List.map_eq_nil_iff.1 h]
  | x :: r, l1, last, h => by
    cases l1 with
    | nil => cases h
    | cons y s =>
      have h1 := (List.cons.inj h).1
      have e1 : y.id = x.id := congrArg (fun q : Core => q.1) h1
      have e2 : y.size = x.size := congrArg (fun q : Core => q.2.1) h1
      have e3 : y.weak = x.weak := congrArg (fun q : Core => q.2.2.1) h1
      simp only [chk]; rw [e1, e2, e3, unv_chk (List.cons.inj h).2]
end
theorem cyc1_c (l : List Ob) (R : List Int) : (cyc1 l R).map Ob.c = l.map (unv (aliveR l R)) := mkOb_map _
theorem cycB_of {l l1 : List Ob} {R reg pend : List Int} (h : l1.map Ob.c = l.map (unv (aliveR l R))) : aliveR l1 (R ++ (pend ++ sepL (aliveR l R) reg)) = cycB l R reg pend :=
  alive_c _ (h.trans (cyc1_c l R).symm)
theorem cycO_of {l l1 : List Ob} {R reg pend : List Int} (h : l1.map Ob.c = l.map (unv (aliveR l R))) : lastL (cycB l R reg pend) (l1.map (clr (cycB l R reg pend))) = cycO l R reg pend := by
  unfold cycO; rw [map_of_c (fun x y => clr_c _) (h.trans (cyc1_c l R).symm)]
theorem cycB_asc {l : List Ob} (R reg pend : List Int) (hc : chk 0 l = true) : ascA 0 (cycB l R reg pend) = true := ascA_alive ((unv_chk (cyc1_c l R)).trans hc) _
theorem cycB_len (l : List Ob) (R reg pend : List Int) : (cycB l R reg pend).length ≤ l.length := by
  have := alive_len (cyc1 l R) (R ++ cycP l R reg pend); have h2 := unv_len (cyc1_c l R)
  unfold cycB; omega
theorem cycP_len (l : List Ob) (R reg pend : List Int) : (pend ++ sepL (aliveR l R) reg).length ≤ pend.length + reg.length := by
  have := sep_len (aliveR l R) reg; rw [List.length_append]; omega
theorem fre_yes {B : List Int} {l : List Ob} {i : Nat} {y : Ob} (hy : l[i]? = some y) (h : y.id ∉ B) : (((l.take i).map Ob.id).filter fun x => !decide (x ∈ B)) ++ [y.id] = ((l.take (i + 1)).map Ob.id).filter fun x => !decide (x ∈ B) := by
  rw [List.take_add_one, hy]; simp [List.filter_append, h]
theorem fre_no {B : List Int} {l : List Ob} {i : Nat} {y : Ob} (hy : l[i]? = some y) (h : y.id ∈ B) : (((l.take i).map Ob.id).filter fun x => !decide (x ∈ B)) = ((l.take (i + 1)).map Ob.id).filter fun x => !decide (x ∈ B) := by
  rw [List.take_add_one, hy]; simp [List.filter_append, h]
end Go.Proofs.Ytipmkaabogocfaa
