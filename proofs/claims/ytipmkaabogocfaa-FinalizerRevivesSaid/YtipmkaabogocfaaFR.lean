/-
  A second collection, and a second cycle, change nothing where there are no weak values. No condition but those that each law says.
-/
import Derived.Test.YtipmkaabogocfaaFS
set_option linter.unusedSimpArgs false
set_option linter.unusedVariables false
namespace Go.Proofs.Ytipmkaabogocfaa
open Go.S
theorem mem_alive {l : List Ob} {R : List Int} (hc : chk 0 l = true) (x : Int) : x ∈ aliveR l R ↔ x ∈ (allR l R).1 := by
  rw [aliveR_ok hc]; exact mem_live (all_good l R).clo x
theorem alive_chk {l : List Ob} {R : List Int} {x : Int} (h : x ∈ aliveR l R) : chk 0 l = true := by
  cases hc : chk 0 l with
  | true => rfl
  | false => rw [aliveR_bad hc] at h; cases h
theorem grows {l : List Ob} {R N : List Int} {x : Int} (h : x ∈ aliveR l R) : x ∈ aliveR l (R ++ N) := by
  have hc := alive_chk h
  rw [mem_alive hc] at h ⊢
  have k := all_closed (chk_asc hc) (R ++ N)
  exact least_all (chk_asc hc) ⟨fun r hr hi => k.roots r (List.mem_append_left _ hr) hi, k.kept, k.eph⟩ x h
theorem grows_root {l : List Ob} {R N : List Int} {x : Int} {o : Ob} (hc : chk 0 l = true) (h : x ∈ N) (hf : fnd l x = some o) : x ∈ aliveR l (R ++ N) := by
  rw [mem_alive hc]
  exact (all_closed (chk_asc hc) (R ++ N)).roots x (List.mem_append_right _ h) (by rw [Is, hf]; rfl)
theorem chk_of {last : Int} {l : List Ob} (h : ∀ x ∈ l, last < x.id ∧ 0 ≤ x.size ∧ 0 ≤ x.weak ∧ x.weak ≤ 3) (ha : Asc l) : chk last l = true := by
  induction l generalizing last with
  | nil => rfl
  | cons x r ih =>
    obtain ⟨h1, h2, h3, h4⟩ := h x (by simp)
    obtain ⟨a1, a2⟩ := List.pairwise_cons.1 ha
    simp only [chk, Bool.and_eq_true, Bool.not_eq_true', Bool.or_eq_false_iff, decide_eq_false_iff_not]
    refine ⟨⟨by omega, by omega, by omega, by omega⟩, ih (fun y hy => ?_) a2⟩
    have := h y (List.mem_cons_of_mem _ hy)
    exact ⟨a1 y hy, this.2⟩
theorem chk_all {last : Int} {l : List Ob} (h : chk last l = true) : ∀ x ∈ l, last < x.id ∧ 0 ≤ x.size ∧ 0 ≤ x.weak ∧ x.weak ≤ 3 := by
  induction l generalizing last with
  | nil => simp
  | cons x r ih =>
    obtain ⟨h1, h2, h3, h4, h5⟩ := chk_cons h
    intro y hy
    rcases List.mem_cons.1 hy with rfl | hy
    · exact ⟨h1, h2, h3, h4⟩
    · have := ih h5 y hy; exact ⟨by omega, this.2⟩
section
variable {l l' : List Ob} {R : List Int}
theorem coll_mem {A : List Int} (h : l'.map Ob.c = lastL A (l.map (clr A))) {x : Ob} (hx : x ∈ l') : ∃ o ∈ l, o.id ∈ A ∧ x.c = clr A o := by
  have h1 : x.c ∈ l'.map Ob.c := List.mem_map.2 ⟨x, hx, rfl⟩
  rw [h] at h1
  simp only [lastL, List.mem_filter, List.mem_map, decide_eq_true_eq] at h1
  obtain ⟨⟨o, ho, e⟩, h2⟩ := h1
  refine ⟨o, ho, ?_, e.symm⟩
  have : o.id = x.id := congrArg (·.1) e
  rw [this]; exact h2
theorem coll_get {A : List Int} (h : l'.map Ob.c = lastL A (l.map (clr A))) {o : Ob} (ho : o ∈ l) (hi : o.id ∈ A) : ∃ x ∈ l', x.c = clr A o := by
  have h1 : clr A o ∈ l'.map Ob.c := by
    rw [h]; simp only [lastL, List.mem_filter, List.mem_map, decide_eq_true_eq]; exact ⟨⟨o, ho, rfl⟩, hi⟩
  obtain ⟨x, hx, e⟩ := List.mem_map.1 h1
  exact ⟨x, hx, e⟩
theorem coll_ids {A : List Int} (h : l'.map Ob.c = lastL A (l.map (clr A))) : l'.map Ob.id = (l.map Ob.id).filter fun x => decide (x ∈ A) := by
  have h1 := congrArg (List.map fun c : Core => c.1) h
  rw [List.map_map] at h1
  have h2 : (lastL A (l.map (clr A))).map (fun c : Core => c.1) = (l.map Ob.id).filter fun x => decide (x ∈ A) := by
    unfold lastL
    rw [List.filter_map, List.map_map, List.filter_map]; rfl
  rw [h2] at h1; exact h1
theorem coll_len {A : List Int} (h : l'.map Ob.c = lastL A (l.map (clr A))) : l'.length ≤ l.length := by
  have h1 := congrArg List.length (coll_ids h)
  have h2 := List.length_filter_le (fun x => decide (x ∈ A)) (l.map Ob.id)
  simp only [List.length_map] at h1 h2; omega
theorem coll_small (h : l'.map Ob.c = collL l R) (hs : ∀ o ∈ l, o.refs.length ≤ 400 ∧ o.ents.length ≤ 400) : l'.length ≤ l.length ∧ ∀ o ∈ l', o.refs.length ≤ 400 ∧ o.ents.length ≤ 400 := by
  cases hc : chk 0 l with
  | false => rw [collL_bad hc] at h; obtain rfl : l' = [] := List.map_eq_nil_iff.1 h; exact ⟨Nat.zero_le _, by simp⟩
  | true =>
    rw [collL_ok hc] at h
    refine ⟨coll_len h, fun x hx => ?_⟩
    obtain ⟨o, ho, _, e⟩ := coll_mem h hx
    have e1 : x.refs = o.refs := congrArg (fun q : Core => q.2.2.2.1) e
    have e2 : x.ents = o.ents.filter (keepB (aliveR l R) o.weak) := congrArg (fun q : Core => q.2.2.2.2) e
    have := hs o ho; have h3 := List.length_filter_le (keepB (aliveR l R) o.weak) o.ents
    rw [e1, e2]; omega
theorem coll_asc {A : List Int} (ha : Asc l) (h : l'.map Ob.c = lastL A (l.map (clr A))) : Asc l' := by
  have h1 : (l'.map Ob.id).Pairwise (· < ·) := by rw [coll_ids h]; exact (ids_asc ha).filter _
  rwa [List.pairwise_map] at h1
theorem coll_chk {A : List Int} (hc : chk 0 l = true) (h : l'.map Ob.c = lastL A (l.map (clr A))) : chk 0 l' = true := by
  refine chk_of (fun x hx => ?_) (coll_asc (chk_asc hc) h)
  obtain ⟨o, ho, _, e⟩ := coll_mem h hx
  have e1 : x.id = o.id := congrArg (fun q : Core => q.1) e
  have e2 : x.size = o.size := congrArg (fun q : Core => q.2.1) e
  have e3 : x.weak = o.weak := congrArg (fun q : Core => q.2.2.1) e
  rw [e1, e2, e3]; exact chk_all hc o ho
theorem coll_fnd {A : List Int} (hc : chk 0 l = true) (h : l'.map Ob.c = lastL A (l.map (clr A))) {x : Int} {o : Ob} (hx : x ∈ A) (hf : fnd l x = some o) : ∃ o', fnd l' x = some o' ∧ o'.c = clr A o := by
  obtain ⟨h1, h2⟩ := fnd_id hf
  obtain ⟨y, hy, e⟩ := coll_get h h2 (by rw [h1]; exact hx)
  have e1 : y.id = x := (congrArg (fun q : Core => q.1) e).trans h1
  refine ⟨y, ?_, e⟩
  rw [← e1]; exact fnd_mem (coll_asc (chk_asc hc) h) hy
theorem coll_is {A : List Int} (h : l'.map Ob.c = lastL A (l.map (clr A))) {x : Int} (hi : Is l' x) : x ∈ A := by
  obtain ⟨o, ho⟩ := Option.isSome_iff_exists.1 hi
  obtain ⟨h1, h2⟩ := fnd_id ho
  obtain ⟨p, _, hp, e⟩ := coll_mem h h2
  have e1 : o.id = p.id := congrArg (fun q : Core => q.1) e
  rw [← h1, e1]; exact hp
/-- What was alive is alive in what is left, where there are no weak values. -/
theorem alive_again (hc : chk 0 l = true) (hw : ∀ o ∈ l, o.weak ≠ 2) (h : l'.map Ob.c = collL l R) : ∀ x ∈ aliveR l R, x ∈ (allR l' R).1 := by
  rw [collL_ok hc] at h
  have ha := chk_asc hc
  have hc' := coll_chk hc h
  have kA := all_closed ha R
  have kB := all_closed (chk_asc hc') R
  have isA : ∀ {x}, x ∈ (allR l R).1 → Is l x → Is l' x := fun {x} hx hi => by
    obtain ⟨o, ho⟩ := Option.isSome_iff_exists.1 hi
    obtain ⟨o', h1, _⟩ := coll_fnd hc h ((mem_alive hc x).2 hx) ho
    rw [Is, h1]; rfl
  have inA : ∀ {x}, x ∈ (allR l' R).1 → x ∈ (allR l R).1 := fun {x} hx => (mem_alive hc x).1 (coll_is h ((all_good l' R).clo.1 x hx))
  intro x hx
  rw [mem_alive hc] at hx
  refine least_all ha (R := R) (p := fun x => x ∈ (allR l' R).1) ⟨fun r hr hi => kB.roots r hr (isA (kA.roots r hr hi) hi), fun x o hp hf z hz hi => ?_, fun x o hp hf hw1 e he hk hi => ?_⟩ x hx
  · obtain ⟨o', h1, e⟩ := coll_fnd hc h ((mem_alive hc x).2 (inA hp)) hf
    have e1 : o'.refs = o.refs := congrArg (fun q : Core => q.2.2.2.1) e
    have e2 : o'.ents = o.ents.filter (keepB (aliveR l R) o.weak) := congrArg (fun q : Core => q.2.2.2.2) e
    have e3 : o'.weak = o.weak := congrArg (fun q : Core => q.2.2.1) e
    refine kB.kept x o' hp h1 z ?_ (isA (kA.kept x o (inA hp) hf z hz hi) hi)
    unfold keptO at hz ⊢
    rw [e1, e2, e3]
    rcases List.mem_append.1 hz with hz | hz
    · exact List.mem_append_left _ hz
    · refine List.mem_append_right _ ?_
      obtain ⟨e, he, hz⟩ := List.mem_flatMap.1 hz
      refine List.mem_flatMap.2 ⟨e, List.mem_filter.2 ⟨he, ?_⟩, hz⟩
      have hw2 := hw o (fnd_id hf).2
      unfold keptE at hz
      unfold keepB
      by_cases w1 : o.weak = 1
      · rw [if_pos w1] at hz
        by_cases k0 : e.key = 0
        · simp [w1, k0, lostB]
        · rw [if_neg k0] at hz; cases hz
      · rw [if_neg w1, if_neg hw2] at hz
        by_cases w3 : o.weak = 3
        · rw [if_pos w3] at hz; cases hz
        · simp [w1, hw2, w3]
  · obtain ⟨o', h1, e'⟩ := coll_fnd hc h ((mem_alive hc x).2 (inA hp)) hf
    have e2 : o'.ents = o.ents.filter (keepB (aliveR l R) o.weak) := congrArg (fun q : Core => q.2.2.2.2) e'
    have e3 : o'.weak = o.weak := congrArg (fun q : Core => q.2.2.1) e'
    refine kB.eph x o' hp h1 (e3.trans hw1) e ?_ hk (isA (kA.eph x o (inA hp) hf hw1 e he (inA hk) hi) hi)
    rw [e2, List.mem_filter]
    refine ⟨he, ?_⟩
    have : e.key ∈ aliveR l R := (mem_alive hc _).2 (inA hk)
    simp [keepB, hw1, lostB, this]
theorem again (hc : chk 0 l = true) (hw : ∀ o ∈ l, o.weak ≠ 2) (h : l'.map Ob.c = collL l R) : chk 0 l' = true ∧ collL l' R = l'.map Ob.c ∧ collF l' R = [] := by
  have h0 := alive_again hc hw h
  rw [collL_ok hc] at h
  have hc' := coll_chk hc h
  have hA : ∀ x ∈ aliveR l R, x ∈ aliveR l' R := fun x hx => (mem_alive hc' x).2 (h0 x hx)
  have hin : ∀ x ∈ l', x.id ∈ aliveR l' R := fun x hx => by
    obtain ⟨o, _, ho, e⟩ := coll_mem h hx
    have e1 : x.id = o.id := congrArg (fun q : Core => q.1) e
    rw [e1]; exact hA _ ho
  have hclr : ∀ x ∈ l', clr (aliveR l' R) x = x.c := fun x hx => by
    obtain ⟨o, _, ho, e⟩ := coll_mem h hx
    have e2 : x.ents = o.ents.filter (keepB (aliveR l R) o.weak) := congrArg (fun q : Core => q.2.2.2.2) e
    have e3 : x.weak = o.weak := congrArg (fun q : Core => q.2.2.1) e
    have : x.ents.filter (keepB (aliveR l' R) x.weak) = x.ents := by
      rw [List.filter_eq_self]
      intro e he
      rw [e2, List.mem_filter] at he
      have hk := he.2
      rw [e3]
      have hl : ∀ z, lostB (aliveR l R) z = false → lostB (aliveR l' R) z = false := fun z hz => by
        simp only [lostB, Bool.and_eq_false_iff, decide_eq_false_iff_not, Bool.not_eq_false', decide_eq_true_eq] at hz ⊢
        exact hz.imp id (hA z)
      revert hk
      unfold keepB
      have l1 := hl e.key; have l2 := hl e.val
      revert l1 l2
      generalize lostB (aliveR l R) e.key = b1; generalize lostB (aliveR l R) e.val = b2; generalize lostB (aliveR l' R) e.key = b3; generalize lostB (aliveR l' R) e.val = b4
      generalize (decide (o.weak = 1) || decide (o.weak = 3)) = b5; generalize (decide (o.weak = 2) || decide (o.weak = 3)) = b6
      revert b1 b2 b3 b4 b5 b6; decide
    unfold clr; rw [this]
  have hmap : l'.map (clr (aliveR l' R)) = l'.map Ob.c := List.map_congr_left hclr
  refine ⟨hc', ?_, ?_⟩
  · rw [collL_ok hc', hmap]
    unfold lastL
    rw [List.filter_eq_self]
    intro c hcm
    obtain ⟨x, hx, rfl⟩ := List.mem_map.1 hcm
    exact decide_eq_true (hin x hx)
  · rw [collF_ok hc', hmap]
    unfold freeL
    rw [List.map_eq_nil_iff, List.filter_eq_nil_iff]
    intro c hcm
    obtain ⟨x, hx, rfl⟩ := List.mem_map.1 hcm
    simp [hin x hx]
end
theorem cut_again {l l2 : List Ob} {B B2 : List Int} (h : l2.map Ob.c = lastL B (l.map (clr B))) (hB : ∀ x ∈ B, x ∈ B2) : lastL B2 (l2.map (clr B2)) = l2.map Ob.c ∧ ((l2.map Ob.id).filter fun x => !decide (x ∈ B2)) = [] := by
  have hin : ∀ x ∈ l2, x.id ∈ B2 := fun x hx => by
    obtain ⟨o, _, ho, e⟩ := coll_mem h hx
    have e1 : x.id = o.id := congrArg (fun q : Core => q.1) e
    rw [e1]; exact hB _ ho
  have hclr : ∀ x ∈ l2, clr B2 x = x.c := fun x hx => by
    obtain ⟨o, _, ho, e⟩ := coll_mem h hx
    have e2 : x.ents = o.ents.filter (keepB B o.weak) := congrArg (fun q : Core => q.2.2.2.2) e
    have e3 : x.weak = o.weak := congrArg (fun q : Core => q.2.2.1) e
    have : x.ents.filter (keepB B2 x.weak) = x.ents := by
      rw [List.filter_eq_self]
      intro e he
      rw [e2, List.mem_filter] at he
      have hk := he.2
      rw [e3]
      have hl : ∀ z, lostB B z = false → lostB B2 z = false := fun z hz => by
        simp only [lostB, Bool.and_eq_false_iff, decide_eq_false_iff_not, Bool.not_eq_false', decide_eq_true_eq] at hz ⊢
        exact hz.imp id (hB z)
      revert hk
      unfold keepB
      have l1 := hl e.key; have l2 := hl e.val
      revert l1 l2
      generalize lostB B e.key = b1; generalize lostB B e.val = b2; generalize lostB B2 e.key = b3; generalize lostB B2 e.val = b4
      generalize (decide (o.weak = 1) || decide (o.weak = 3)) = b5; generalize (decide (o.weak = 2) || decide (o.weak = 3)) = b6
      revert b1 b2 b3 b4 b5 b6; decide
    unfold clr; rw [this]
  constructor
  · rw [List.map_congr_left hclr]
    unfold lastL
    rw [List.filter_eq_self]
    intro c hcm
    obtain ⟨x, hx, rfl⟩ := List.mem_map.1 hcm
    exact decide_eq_true (hin x hx)
  · rw [List.filter_eq_nil_iff]
    intro z hz
    obtain ⟨x, hx, rfl⟩ := List.mem_map.1 hz
    simp [hin x hx]
def Strong (l : List Ob) : Prop := ∀ o ∈ l, o.weak ≠ 2 ∧ o.weak ≠ 3
theorem strong_unv {l : List Ob} (A : List Int) (h : Strong l) : l.map (unv A) = l.map Ob.c := List.map_congr_left fun x hx => by
  have := h x hx
  have e : unvB A x = false := by simp [unvB, this.1, this.2]
  unfold unv; rw [e]; rfl
theorem strong_1 {l : List Ob} (R : List Int) (h : Strong l) : (cyc1 l R).map Ob.c = l.map Ob.c := (cyc1_c l R).trans (strong_unv _ h)
theorem strong_B {l : List Ob} (R reg pend : List Int) (h : Strong l) : cycB l R reg pend = aliveR l (R ++ cycP l R reg pend) := alive_c _ (strong_1 R h)
theorem strong_O {l : List Ob} (R reg pend : List Int) (h : Strong l) : cycO l R reg pend = lastL (cycB l R reg pend) (l.map (clr (cycB l R reg pend))) := by
  unfold cycO; rw [map_of_c (fun x y => clr_c _) (strong_1 R h)]
theorem cyc_coll {l : List Ob} (R : List Int) (hc : chk 0 l = true) (h : Strong l) : cycO l R [] [] = collL l R ∧ cycF l R [] [] = collF l R := by
  have hB : cycB l R [] [] = aliveR l R := by
    rw [strong_B R [] [] h]
    show aliveR l (R ++ ([] ++ sepL (aliveR l R) [])) = _
    rw [show sepL (aliveR l R) [] = [] from rfl, List.append_nil, List.append_nil]
  constructor
  · rw [strong_O R [] [] h, hB, collL_ok hc]
  · rw [collF_ok hc]; unfold cycF freeL; rw [hB, List.filter_map, List.filter_map, List.map_map]; rfl
theorem cyc_again {l l2 : List Ob} {R reg pend : List Int} (hc : chk 0 l = true) (h : Strong l) (h2 : l2.map Ob.c = cycO l R reg pend) : chk 0 l2 = true ∧ cycO l2 R (cycR l R reg) (cycP l R reg pend) = l2.map Ob.c ∧ cycF l2 R (cycR l R reg) (cycP l R reg pend) = [] := by
  have hB := strong_B R reg pend h
  have hO := h2.trans (strong_O R reg pend h)
  have hcoll : l2.map Ob.c = collL l (R ++ cycP l R reg pend) := by rw [collL_ok hc, ← hB]; exact hO
  have hc2 := coll_chk hc hO
  have hs2 : Strong l2 := fun x hx => by
    obtain ⟨o, ho, _, e⟩ := coll_mem hO hx
    have e3 : x.weak = o.weak := congrArg (fun q : Core => q.2.2.1) e
    rw [e3]; exact h o ho
  have hsub : ∀ x ∈ cycB l R reg pend, x ∈ cycB l2 R (cycR l R reg) (cycP l R reg pend) := fun x hx => by
    rw [hB] at hx
    have h1 := alive_again hc (fun o ho => (h o ho).1) hcoll x hx
    have h3 : x ∈ aliveR l2 (R ++ cycP l R reg pend) := (mem_alive hc2 x).2 h1
    rw [strong_B R _ _ hs2]
    unfold cycP at h3 ⊢
    have := grows (N := sepL (aliveR l2 R) (cycR l R reg)) h3
    rw [List.append_assoc] at this
    exact this
  have hcut := cut_again hO hsub
  refine ⟨hc2, ?_, ?_⟩
  · rw [strong_O R _ _ hs2]; exact hcut.1
  · exact hcut.2
end Go.Proofs.Ytipmkaabogocfaa
