/-
  How many rounds there are at most. No condition but those that each law says.
-/
import Derived.Test.YtjdlkemmcnncaaaL3
set_option linter.unusedSimpArgs false
set_option linter.unusedVariables false
namespace Go.Proofs.Ytjdlkemmcnncaaa
open Go.S
def valsE (L : List Ent) : List Int := L.map Ent.val
def valsT (L : List Ob) : List Int := L.flatMap fun o => valsE o.ents
/-- Nothing, or a value that was not there. -/
def New1 (V : List Int) (s t : List Int × Bool) : Prop := t.1 = s.1 ∨ ∃ v ∈ V, v ∉ s.1 ∧ v ∈ t.1
theorem New1.trans {l : List Ob} {V W : List Int} {s t u : List Int × Bool} (h : New1 V s t) (k : New1 W t u) (hs : Step l t u) : New1 (V ++ W) s u := by
  rcases h with h | ⟨v, hv, h1, h2⟩
  · rcases k with k | ⟨v, hv, h1, h2⟩
    · exact .inl (k.trans h)
    · exact .inr ⟨v, List.mem_append_right _ hv, h ▸ h1, h2⟩
  · exact .inr ⟨v, List.mem_append_left _ hv, h1, hs.sub v h2⟩
theorem new_e {l : List Ob} {s : List Int × Bool} (hg : Good l s.1) (e : Ent) : New1 [e.val] s (stepE l s e) := by
  unfold stepE
  split
  · by_cases h : (dfs l s.1 [e.val]).length = s.1.length
    · exact .inl (dfs_same_len _ h)
    · have hlt : s.1.length < (dfs l s.1 [e.val]).length := by have := (found l s.1 [e.val]).len; omega
      obtain ⟨w, hw, hi, hn⟩ := (dfs_fresh hg.clo hg.nodup).1 hlt
      exact .inr ⟨w, hw, hn, (found l s.1 [e.val]).got w hw hi⟩
  · exact .inl rfl
theorem new_fold {α : Type} {l : List Ob} {f : List Int × Bool → α → List Int × Bool} {V : α → List Int} (hf : ∀ s a, Step l s (f s a)) (hn : ∀ s a, Good l s.1 → New1 (V a) s (f s a)) : ∀ (L : List α) (s : List Int × Bool), Good l s.1 → New1 (L.flatMap V) s (L.foldl f s)
  | [], s, _ => .inl rfl
  | a :: r, s, hg => by
    rw [List.foldl_cons, List.flatMap_cons]
    exact (hn s a hg).trans (new_fold hf hn r (f s a) ((hf s a).good hg)) (step_fold hf r (f s a))
theorem new_t {l : List Ob} {s : List Int × Bool} (hg : Good l s.1) (o : Ob) : New1 (valsE o.ents) s (stepT l s o) := by
  unfold stepT
  split
  · have := new_fold (V := fun e : Ent => [e.val]) (step_e l) (fun s e hg => new_e hg e) o.ents s hg
    have e1 : o.ents.flatMap (fun e => [e.val]) = valsE o.ents := by unfold valsE; induction o.ents with
      | nil => rfl
      | cons a r ih => rw [List.flatMap_cons, ih]; rfl
    rwa [e1] at this
  · exact .inl rfl
theorem new_r {l : List Ob} {M : List Int} (hg : Good l M) : New1 (valsT (tabs l)) (M, false) (rnd l M) := new_fold (step_t l) (fun s o hg => new_t hg o) (tabs l) (M, false) hg
def cntN (V M : List Int) : Nat := (V.filter fun v => decide (v ∉ M)).length
theorem cnt_lt {V M N : List Int} (h : ∀ x ∈ M, x ∈ N) {v : Int} (hv : v ∈ V) (h1 : v ∉ M) (h2 : v ∈ N) : cntN V N < cntN V M := by
  unfold cntN
  have key : ∀ V : List Int, (V.filter fun v => decide (v ∉ N)).length ≤ (V.filter fun v => decide (v ∉ M)).length := by
    intro V
    induction V with
    | nil => simp
    | cons a r ih =>
      simp only [List.filter_cons]
      by_cases ha : a ∈ M
      · simp [ha, h a ha]; simpa using ih
      · by_cases hb : a ∈ N
        · simp [ha, hb]; simp at ih; omega
        · simp [ha, hb]; simpa using ih
  induction V with
  | nil => cases hv
  | cons a r ih =>
    have kr := key r
    simp only [List.filter_cons]
    rcases List.mem_cons.1 hv with rfl | hv
    · simp [h1, h2]; simp at kr; omega
    · have := ih hv
      by_cases ha : a ∈ M
      · simp [ha, h a ha]; simpa using this
      · by_cases hb : a ∈ N
        · simp [ha, hb]; simp at this; omega
        · simp [ha, hb]; simpa using this
theorem runs_cnt {l : List Ob} : ∀ (k : Nat) (s : List Int × Nat), Good l s.1 → (runs l k s).2 ≤ s.2 + cntN (valsT (tabs l)) s.1
  | 0, s, _ => Nat.le_add_right _ _
  | k + 1, s, hg => by
    have hs := step_r l s.1
    unfold runs
    split
    · rename_i hf
      have h1 := runs_cnt k ((rnd l s.1).1, s.2 + 1) (hs.good hg)
      have h2 : cntN (valsT (tabs l)) (rnd l s.1).1 < cntN (valsT (tabs l)) s.1 := by
        rw [rnd_flag, decide_eq_true_eq] at hf
        rcases new_r hg with h | ⟨v, hv, h3, h4⟩
        · have h : (rnd l s.1).1 = s.1 := h
          rw [h] at hf; omega
        · exact cnt_lt hs.sub hv h3 h4
      simp only at h1 ⊢
      omega
    · simp only; omega
/-- The tables with weak keys, and their entries. -/
def mostS (l : List Ob) : Nat := ((tabs l).map fun o => 1 + o.ents.length).sum
theorem vals_len : ∀ L : List Ob, (valsT L).length ≤ (L.map fun o => 1 + o.ents.length).sum
  | [] => by simp [valsT]
  | o :: r => by
    have := vals_len r
    simp only [valsT, List.flatMap_cons, List.length_append, List.map_cons, List.sum_cons] at this ⊢
    have h2 : (valsE o.ents).length = o.ents.length := List.length_map _
    omega
theorem rounds_le (l : List Ob) (R : List Int) : roundsP l R ≤ 1 + (mostS l : Int) := by
  cases h : chk 0 l with
  | false => rw [roundsP_bad h]; omega
  | true =>
    rw [roundsP_ok h, (all_same l R).2]
    have h1 := runs_cnt (l := l) (l.length + 1) (dfs l [] R, 1) ((good_nil l).dfs R)
    have h2 : cntN (valsT (tabs l)) (dfs l [] R) ≤ (valsT (tabs l)).length := List.length_filter_le _ _
    have h3 := vals_len (tabs l)
    have : (allR l R).2 ≤ 1 + mostS l := by show (runs l (l.length + 1) (dfs l [] R, 1)).2 ≤ _; unfold mostS; simp only at h1; omega
    omega
theorem rounds_ok (l : List Ob) (R : List Int) : (decide ((1 : Int) ≤ roundsP l R) == decide (errI (chk 0 l) = 0)) = true := by
  cases h : chk 0 l with
  | false => rw [roundsP_bad h]; rfl
  | true =>
    have := (runs_n (l := l) (l.length + 1) (rootsP l [] R, 1)).1
    rw [roundsP_ok h, decide_eq_true (show (1 : Int) ≤ ((allP l R).2 : Int) by show (1 : Int) ≤ (((runs l (l.length + 1) (rootsP l [] R, 1)).2 : Nat) : Int); simp only at this; omega)]; rfl
theorem most_yes {l : List Ob} {i : Nat} {y : Ob} (hy : l[i]? = some y) (h : y.weak = 1) : mostS (l.take (i + 1)) = mostS (l.take i) + 1 + y.ents.length := by
  unfold mostS; rw [tabs_yes hy h]; simp; omega
theorem most_no {l : List Ob} {i : Nat} {y : Ob} (hy : l[i]? = some y) (h : ¬ y.weak = 1) : mostS (l.take (i + 1)) = mostS (l.take i) := by
  unfold mostS; rw [tabs_no hy h]
theorem most_le : ∀ (L : List Ob), (∀ o ∈ L, o.ents.length ≤ 400) → mostS L ≤ 401 * L.length
  | [], _ => by simp [mostS, tabs]
  | o :: r, h => by
    have h1 := most_le r fun x hx => h x (List.mem_cons_of_mem _ hx)
    have h2 := h o (by simp)
    unfold mostS tabs at h1 ⊢
    rw [List.filter_cons]
    split <;> simp only [List.map_cons, List.sum_cons, List.length_cons] <;> omega
end Go.Proofs.Ytjdlkemmcnncaaa
