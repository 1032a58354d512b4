/-
  More roots keep more alive; a second collection changes nothing where there are no weak values. No condition but those that each law says.
-/
import Derived.Test.YtjdlkemmcnncaaaL4
import Derived.Test.YtjdlkemmcnncaaaW6
import Derived.Test.YtjdlkemmcnncaaaSY
set_option linter.unusedSimpArgs false
set_option linter.unusedVariables false
namespace Go.Proofs.Ytjdlkemmcnncaaa
open Go.S
theorem mem_alive {l : List Ob} {R : List Int} (hc : chk 0 l = true) (x : Int) : x ∈ aliveR l R ↔ x ∈ (allR l R).1 := by
  rw [aliveR_ok hc]; exact mem_live (all_good l R).clo x
theorem alive_chk {l : List Ob} {R : List Int} {x : Int} (h : x ∈ aliveR l R) : chk 0 l = true := by
  cases hc : chk 0 l with
  | true => rfl
  | false => rw [aliveR_bad hc] at h; cases h
theorem grows {l : List Ob} {R N : List Int} {x : Int} (h : x ∈ aliveR l R) : x ∈ aliveR l (R ++ N) := by
  have hc := alive_chk h
  rw [mem_alive hc] at h ⊢
  have k := all_closed (chk_asc hc) (R ++ N)
  exact least_all (chk_asc hc) ⟨fun r hr hi => k.roots r (List.mem_append_left _ hr) hi, k.kept, k.eph⟩ x h
theorem grows_root {l : List Ob} {R N : List Int} {x : Int} {o : Ob} (hc : chk 0 l = true) (h : x ∈ N) (hf : fnd l x = some o) : x ∈ aliveR l (R ++ N) := by
  rw [mem_alive hc]
  exact (all_closed (chk_asc hc) (R ++ N)).roots x (List.mem_append_right _ h) (by rw [Is, hf]; rfl)
theorem chk_of {last : Int} {l : List Ob} (h : ∀ x ∈ l, last < x.id ∧ 0 ≤ x.size ∧ 0 ≤ x.weak ∧ x.weak ≤ 3) (ha : Asc l) : chk last l = true := by
  induction l generalizing last with
  | nil => rfl
  | cons x r ih =>
    obtain ⟨h1, h2, h3, h4⟩ := h x (by simp)
    obtain ⟨a1, a2⟩ := List.pairwise_cons.1 ha
    simp only [chk, Bool.and_eq_true, Bool.not_eq_true', Bool.or_eq_false_iff, decide_eq_false_iff_not]
    refine ⟨⟨by omega, by omega, by omega, by omega⟩, ih (fun y hy => ?_) a2⟩
    have := h y (List.mem_cons_of_mem _ hy)
    exact ⟨a1 y hy, this.2⟩
theorem chk_all {last : Int} {l : List Ob} (h : chk last l = true) : ∀ x ∈ l, last < x.id ∧ 0 ≤ x.size ∧ 0 ≤ x.weak ∧ x.weak ≤ 3 := by
  induction l generalizing last with
  | nil => simp
  | cons x r ih =>
    obtain ⟨h1, h2, h3, h4, h5⟩ := chk_cons h
    intro y hy
    rcases List.mem_cons.1 hy with rfl | hy
    · exact ⟨h1, h2, h3, h4⟩
    · have := ih h5 y hy; exact ⟨by omega, this.2⟩
section
variable {l l' : List Ob} {R : List Int}
theorem coll_mem {A : List Int} (h : l'.map Ob.c = lastL A (l.map (clr A))) {x : Ob} (hx : x ∈ l') : ∃ o ∈ l, o.id ∈ A ∧ x.c = clr A o := by
  have h1 : x.c ∈ l'.map Ob.c := List.mem_map.2 ⟨x, hx, rfl⟩
  rw [h] at h1
  simp only [lastL, List.mem_filter, List.mem_map, decide_eq_true_eq] at h1
  obtain ⟨⟨o, ho, e⟩, h2⟩ := h1
  refine ⟨o, ho, ?_, e.symm⟩
  have : o.id = x.id := congrArg (·.1) e
  rw [this]; exact h2
theorem coll_get {A : List Int} (h : l'.map Ob.c = lastL A (l.map (clr A))) {o : Ob} (ho : o ∈ l) (hi : o.id ∈ A) : ∃ x ∈ l', x.c = clr A o := by
  have h1 : clr A o ∈ l'.map Ob.c := by
    rw [h]; simp only [lastL, List.mem_filter, List.mem_map, decide_eq_true_eq]; exact ⟨⟨o, ho, rfl⟩, hi⟩
  obtain ⟨x, hx, e⟩ := List.mem_map.1 h1
  exact ⟨x, hx, e⟩
theorem coll_ids {A : List Int} (h : l'.map Ob.c = lastL A (l.map (clr A))) : l'.map Ob.id = (l.map Ob.id).filter fun x => decide (x ∈ A) := by
  have h1 := congrArg (List.map fun c : Core => c.1) h
  rw [List.map_map] at h1
  have h2 : (lastL A (l.map (clr A))).map (fun c : Core => c.1) = (l.map Ob.id).filter fun x => decide (x ∈ A) := by
    unfold lastL
    rw [List.filter_map, List.map_map, List.filter_map]; rfl
  rw [h2] at h1; exact h1
theorem coll_len {A : List Int} (h : l'.map Ob.c = lastL A (l.map (clr A))) : l'.length ≤ l.length := by
  have h1 := congrArg List.length (coll_ids h)
  have h2 := List.length_filter_le (fun x => decide (x ∈ A)) (l.map Ob.id)
  simp only [List.length_map] at h1 h2; omega
theorem coll_small (h : l'.map Ob.c = collL l R) (hs : ∀ o ∈ l, o.refs.length ≤ 400 ∧ o.ents.length ≤ 400) : l'.length ≤ l.length ∧ ∀ o ∈ l', o.refs.length ≤ 400 ∧ o.ents.length ≤ 400 := by
  cases hc : chk 0 l with
  | false => rw [collL_bad hc] at h; obtain rfl : l' = [] := List.map_eq_nil_iff.1 h; exact ⟨Nat.zero_le _, by simp⟩
  | true =>
    rw [collL_ok hc] at h
    refine ⟨coll_len h, fun x hx => ?_⟩
    obtain ⟨o, ho, _, e⟩ := coll_mem h hx
    have e1 : x.refs = o.refs := congrArg (fun q : Core => q.2.2.2.1) e
    have e2 : x.ents = o.ents.filter (keepB (aliveR l R) o.weak) := congrArg (fun q : Core => q.2.2.2.2) e
    have := hs o ho; have h3 := List.length_filter_le (keepB (aliveR l R) o.weak) o.ents
    rw [e1, e2]; omega
theorem coll_asc {A : List Int} (ha : Asc l) (h : l'.map Ob.c = lastL A (l.map (clr A))) : Asc l' := by
  have h1 : (l'.map Ob.id).Pairwise (· < ·) := by rw [coll_ids h]; exact (ids_asc ha).filter _
  rwa [List.pairwise_map] at h1
theorem coll_chk {A : List Int} (hc : chk 0 l = true) (h : l'.map Ob.c = lastL A (l.map (clr A))) : chk 0 l' = true := by
  refine chk_of (fun x hx => ?_) (coll_asc (chk_asc hc) h)
  obtain ⟨o, ho, _, e⟩ := coll_mem h hx
  have e1 : x.id = o.id := congrArg (fun q : Core => q.1) e
  have e2 : x.size = o.size := congrArg (fun q : Core => q.2.1) e
  have e3 : x.weak = o.weak := congrArg (fun q : Core => q.2.2.1) e
  rw [e1, e2, e3]; exact chk_all hc o ho
theorem coll_fnd {A : List Int} (hc : chk 0 l = true) (h : l'.map Ob.c = lastL A (l.map (clr A))) {x : Int} {o : Ob} (hx : x ∈ A) (hf : fnd l x = some o) : ∃ o', fnd l' x = some o' ∧ o'.c = clr A o := by
  obtain ⟨h1, h2⟩ := fnd_id hf
  obtain ⟨y, hy, e⟩ := coll_get h h2 (by rw [h1]; exact hx)
  have e1 : y.id = x := (congrArg (fun q : Core => q.1) e).trans h1
  refine ⟨y, ?_, e⟩
  rw [← e1]; exact fnd_mem (coll_asc (chk_asc hc) h) hy
theorem coll_is {A : List Int} (h : l'.map Ob.c = lastL A (l.map (clr A))) {x : Int} (hi : Is l' x) : x ∈ A := by
  obtain ⟨o, ho⟩ := Option.isSome_iff_exists.1 hi
  obtain ⟨h1, h2⟩ := fnd_id ho
  obtain ⟨p, _, hp, e⟩ := coll_mem h h2
  have e1 : o.id = p.id := congrArg (fun q : Core => q.1) e
  rw [← h1, e1]; exact hp
/-- What was alive is alive in what is left, where there are no weak values. -/
theorem alive_again (hc : chk 0 l = true) (hw : ∀ o ∈ l, o.weak ≠ 2) (h : l'.map Ob.c = collL l R) : ∀ x ∈ aliveR l R, x ∈ (allR l' R).1 := by
  rw [collL_ok hc] at h
  have ha := chk_asc hc
  have hc' := coll_chk hc h
  have kA := all_closed ha R
  have kB := all_closed (chk_asc hc') R
  have isA : ∀ {x}, x ∈ (allR l R).1 → Is l x → Is l' x := fun {x} hx hi => by
    obtain ⟨o, ho⟩ := Option.isSome_iff_exists.1 hi
    obtain ⟨o', h1, _⟩ := coll_fnd hc h ((mem_alive hc x).2 hx) ho
    rw [Is, h1]; rfl
  have inA : ∀ {x}, x ∈ (allR l' R).1 → x ∈ (allR l R).1 := fun {x} hx => (mem_alive hc x).1 (coll_is h ((all_good l' R).clo.1 x hx))
  intro x hx
  rw [mem_alive hc] at hx
  refine least_all ha (R := R) (p := fun x => x ∈ (allR l' R).1) ⟨fun r hr hi => kB.roots r hr (isA (kA.roots r hr hi) hi), fun x o hp hf z hz hi => ?_, fun x o hp hf hw1 e he hk hi => ?_⟩ x hx
  · obtain ⟨o', h1, e⟩ := coll_fnd hc h ((mem_alive hc x).2 (inA hp)) hf
    have e1 : o'.refs = o.refs := congrArg (fun q : Core => q.2.2.2.1) e
    have e2 : o'.ents = o.ents.filter (keepB (aliveR l R) o.weak) := congrArg (fun q : Core => q.2.2.2.2) e
    have e3 : o'.weak = o.weak := congrArg (fun q : Core => q.2.2.1) e
    refine kB.kept x o' hp h1 z ?_ (isA (kA.kept x o (inA hp) hf z hz hi) hi)
    unfold keptO at hz ⊢
    rw [e1, e2, e3]
    rcases List.mem_append.1 hz with hz | hz
    · exact List.mem_append_left _ hz
    · refine List.mem_append_right _ ?_
      obtain ⟨e, he, hz⟩ := List.mem_flatMap.1 hz
      refine List.mem_flatMap.2 ⟨e, List.mem_filter.2 ⟨he, ?_⟩, hz⟩
      have hw2 := hw o (fnd_id hf).2
      unfold keptE at hz
      unfold keepB
      by_cases w1 : o.weak = 1
      · rw [if_pos w1] at hz
        by_cases k0 : e.key = 0
        · simp [w1, k0, lostB]
        · rw [if_neg k0] at hz; cases hz
      · rw [if_neg w1, if_neg hw2] at hz
        by_cases w3 : o.weak = 3
        · rw [if_pos w3] at hz; cases hz
        · simp [w1, hw2, w3]
  · obtain ⟨o', h1, e'⟩ := coll_fnd hc h ((mem_alive hc x).2 (inA hp)) hf
    have e2 : o'.ents = o.ents.filter (keepB (aliveR l R) o.weak) := congrArg (fun q : Core => q.2.2.2.2) e'
    have e3 : o'.weak = o.weak := congrArg (fun q : Core => q.2.2.1) e'
    refine kB.eph x o' hp h1 (e3.trans hw1) e ?_ hk (isA (kA.eph x o (inA hp) hf hw1 e he (inA hk) hi) hi)
    rw [e2, List.mem_filter]
    refine ⟨he, ?_⟩
    have : e.key ∈ aliveR l R := (mem_alive hc _).2 (inA hk)
    simp [keepB, hw1, lostB, this]
theorem again (hc : chk 0 l = true) (hw : ∀ o ∈ l, o.weak ≠ 2) (h : l'.map Ob.c = collL l R) : chk 0 l' = true ∧ collL l' R = l'.map Ob.c ∧ collF l' R = [] := by
  have h0 := alive_again hc hw h
  rw [collL_ok hc] at h
  have hc' := coll_chk hc h
  have hA : ∀ x ∈ aliveR l R, x ∈ aliveR l' R := fun x hx => (mem_alive hc' x).2 (h0 x hx)
  have hin : ∀ x ∈ l', x.id ∈ aliveR l' R := fun x hx => by
    obtain ⟨o, _, ho, e⟩ := coll_mem h hx
    have e1 : x.id = o.id := congrArg (fun q : Core => q.1) e
    rw [e1]; exact hA _ ho
  have hclr : ∀ x ∈ l', clr (aliveR l' R) x = x.c := fun x hx => by
    obtain ⟨o, _, ho, e⟩ := coll_mem h hx
    have e2 : x.ents = o.ents.filter (keepB (aliveR l R) o.weak) := congrArg (fun q : Core => q.2.2.2.2) e
    have e3 : x.weak = o.weak := congrArg (fun q : Core => q.2.2.1) e
    have : x.ents.filter (keepB (aliveR l' R) x.weak) = x.ents := by
      rw [List.filter_eq_self]
      intro e he
      rw [e2, List.mem_filter] at he
      have hk := he.2
      rw [e3]
      have hl : ∀ z, lostB (aliveR l R) z = false → lostB (aliveR l' R) z = false := fun z hz => by
        simp only [lostB, Bool.and_eq_false_iff, decide_eq_false_iff_not, Bool.not_eq_false', decide_eq_true_eq] at hz ⊢
        exact hz.imp id (hA z)
      revert hk
      unfold keepB
      have l1 := hl e.key; have l2 := hl e.val
      revert l1 l2
      generalize lostB (aliveR l R) e.key = b1; generalize lostB (aliveR l R) e.val = b2; generalize lostB (aliveR l' R) e.key = b3; generalize lostB (aliveR l' R) e.val = b4
      generalize (decide (o.weak = 1) || decide (o.weak = 3)) = b5; generalize (decide (o.weak = 2) || decide (o.weak = 3)) = b6
      revert b1 b2 b3 b4 b5 b6; decide
    unfold clr; rw [this]
  have hmap : l'.map (clr (aliveR l' R)) = l'.map Ob.c := List.map_congr_left hclr
  refine ⟨hc', ?_, ?_⟩
  · rw [collL_ok hc', hmap]
    unfold lastL
    rw [List.filter_eq_self]
    intro c hcm
    obtain ⟨x, hx, rfl⟩ := List.mem_map.1 hcm
    exact decide_eq_true (hin x hx)
  · rw [collF_ok hc', hmap]
    unfold freeL
    rw [List.map_eq_nil_iff, List.filter_eq_nil_iff]
    intro c hcm
    obtain ⟨x, hx, rfl⟩ := List.mem_map.1 hcm
    simp [hin x hx]
end
theorem filt_len {α : Type} {p : α → Bool} {L : List α} {k : Nat} {e : α} (h : L[k]? = some e) : ((L.take (k + 1)).filter p).length = ((L.take k).filter p).length + (if p e = true then 1 else 0) := by
  rw [List.take_add_one, h, List.filter_append, List.length_append]
  cases hp : p e <;> simp [hp]
theorem filt_at {α : Type} {p : α → Bool} {L : List α} {k : Nat} {e : α} (h : L[k]? = some e) (hp : p e = true) : (L.filter p)[((L.take k).filter p).length]? = some e := by
  obtain ⟨hi, e1⟩ := List.getElem?_eq_some_iff.1 h
  have h1 : L = L.take k ++ e :: L.drop (k + 1) := by rw [← e1, ← List.drop_eq_getElem_cons hi, List.take_append_drop]
  have h2 : L.filter p = (L.take k).filter p ++ e :: (L.drop (k + 1)).filter p := by
    rw [← List.filter_cons_of_pos hp, ← List.filter_append, ← h1]
  rw [h2, List.getElem?_append_right (Nat.le_refl _), Nat.sub_self]; rfl
/-- How many of the first objects are alive. -/
def cntA (A : List Int) (l : List Ob) : Nat := (l.filter fun o => decide (o.id ∈ A)).length
theorem cntA_yes {A : List Int} {l : List Ob} {i : Nat} {o : Ob} (h : l[i]? = some o) (ho : o.id ∈ A) : cntA A (l.take (i + 1)) = cntA A (l.take i) + 1 := by
  unfold cntA; rw [filt_len h, if_pos (decide_eq_true ho)]
theorem cntA_no {A : List Int} {l : List Ob} {i : Nat} {o : Ob} (h : l[i]? = some o) (ho : o.id ∉ A) : cntA A (l.take (i + 1)) = cntA A (l.take i) := by
  unfold cntA; rw [filt_len h, if_neg (by simp [ho])]; rfl
theorem lastL_eq (A : List Int) (l : List Ob) : lastL A (l.map (clr A)) = (l.filter fun o => decide (o.id ∈ A)).map (clr A) := by
  unfold lastL; rw [List.filter_map]; rfl
theorem coll_at {A : List Int} {l l' : List Ob} (h : l'.map Ob.c = lastL A (l.map (clr A))) {i : Nat} {o : Ob} (hi : l[i]? = some o) (ho : o.id ∈ A) : ∃ x, l'[cntA A (l.take i)]? = some x ∧ x.c = clr A o := by
  have h1 := filt_at (p := fun o : Ob => decide (o.id ∈ A)) hi (decide_eq_true ho)
  have h2 : (l'.map Ob.c)[cntA A (l.take i)]? = some (clr A o) := by
    rw [h, lastL_eq, List.getElem?_map]
    show Option.map _ ((l.filter fun o => decide (o.id ∈ A))[((l.take i).filter fun o => decide (o.id ∈ A)).length]?) = _
    rw [h1]; rfl
  rw [List.getElem?_map, Option.map_eq_some_iff] at h2
  exact h2
theorem free_lens (A : List Int) (l : List Ob) : (lastL A (l.map (clr A))).length + (freeL A (l.map (clr A))).length = l.length := by
  unfold lastL freeL
  rw [List.length_map]
  have := List.length_eq_countP_add_countP (fun x : Core => decide (x.1 ∈ A)) (l := l.map (clr A))
  rw [List.length_map] at this
  rw [← List.countP_eq_length_filter, ← List.countP_eq_length_filter, this]
  congr 1
  apply List.countP_congr
  intro x _; simp
theorem coll_cnt {l l' : List Ob} {R : List Int} (hc : chk 0 l = true) (h : l'.map Ob.c = collL l R) : l'.length = (aliveR l R).length ∧ ((collF l R).length : Int) = (l.length : Int) - ((aliveR l R).length : Int) := by
  have h1 : l'.length = (collL l R).length := by rw [← h, List.length_map]
  have h2 : (collL l R).length = (aliveR l R).length := by
    rw [collL_ok hc, lastL_eq, List.length_map]
    conv => rhs; rw [aliveR_ok hc]
    unfold live
    rw [List.length_map]
    congr 1
    apply List.filter_congr
    intro o _
    rw [decide_eq_decide]; exact mem_alive hc o.id
  have h3 := free_lens (aliveR l R) l
  rw [← collL_ok hc, ← collF_ok hc] at h3
  omega
theorem mem_collF {l : List Ob} {R : List Int} (hc : chk 0 l = true) {o : Ob} (ho : o ∈ l) (hi : o.id ∉ aliveR l R) : o.id ∈ collF l R := by
  rw [collF_ok hc]
  simp only [freeL, List.mem_map, List.mem_filter]
  exact ⟨clr (aliveR l R) o, ⟨⟨o, ho, rfl⟩, by simp [clr, hi]⟩, rfl⟩
theorem collF_asc (l : List Ob) (R : List Int) : (collF l R).Pairwise (· < ·) := by
  cases hc : chk 0 l with
  | false => rw [collF_bad hc]; exact .nil
  | true => rw [collF_ok hc]; exact free_asc (chk_asc hc)
theorem collF_len (l : List Ob) (R : List Int) : (collF l R).length ≤ l.length := by
  cases hc : chk 0 l with
  | false => rw [collF_bad hc]; exact Nat.zero_le _
  | true => rw [collF_ok hc]; have := free_len (aliveR l R) (l.map (clr (aliveR l R))); rwa [List.length_map] at this
theorem gone_keep {A : List Int} {w : Int} (hw : 0 ≤ w ∧ w ≤ 3) (e : Ent) : ((decide (andI .i64 w 1 ≠ 0) && decide (e.key ≠ 0)) && !decide (e.key ∈ A) || ((decide (andI .i64 w 2 ≠ 0) && decide (e.val ≠ 0)) && !decide (e.val ∈ A))) = !keepB A w e := by
  rw [and_one hw, and_two hw]
  have : w = 0 ∨ w = 1 ∨ w = 2 ∨ w = 3 := by omega
  unfold keepB lostB
  rcases this with rfl | rfl | rfl | rfl <;> simp
end Go.Proofs.Ytjdlkemmcnncaaa
