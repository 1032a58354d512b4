/-
  Graphs with weak tables, in plain Lean: the order of identities, what objects keep alive, the search with a stack, and what it finds. No condition but those that each law says.
-/
import Derived.Test.YtjdlkemmcnncaaaDefs
set_option linter.unusedSimpArgs false
set_option linter.unusedVariables false
namespace Go.Proofs.Ytjdlkemmcnncaaa

def chk (last : Int) : List Ob → Bool
  | [] => true
  | x :: r => !(decide (x.id ≤ last) || (decide (x.size < 0) || (decide (x.weak < 0) || decide (3 < x.weak)))) && chk x.id r
theorem chk_cons {last : Int} {x : Ob} {r : List Ob} (h : chk last (x :: r) = true) : last < x.id ∧ 0 ≤ x.size ∧ 0 ≤ x.weak ∧ x.weak ≤ 3 ∧ chk x.id r = true := by
  simp only [chk, Bool.and_eq_true, Bool.not_eq_true', Bool.or_eq_false_iff, decide_eq_false_iff_not] at h
  obtain ⟨⟨h1, h2, h3, h4⟩, h5⟩ := h
  exact ⟨by omega, by omega, by omega, by omega, h5⟩
theorem chk_lt {last : Int} {l : List Ob} (h : chk last l = true) : ∀ x ∈ l, last < x.id := by
  induction l generalizing last with
  | nil => simp
  | cons x r ih =>
    obtain ⟨h1, _, _, _, h5⟩ := chk_cons h
    intro y hy
    rcases List.mem_cons.1 hy with rfl | hy
    · exact h1
    · have := ih h5 y hy; omega
theorem chk_asc {last : Int} {l : List Ob} (h : chk last l = true) : l.Pairwise (fun x y => x.id < y.id) := by
  induction l generalizing last with
  | nil => simp
  | cons x r ih =>
    obtain ⟨h1, _, _, _, h5⟩ := chk_cons h
    exact List.pairwise_cons.2 ⟨fun y hy => chk_lt h5 y hy, ih h5⟩
theorem chk_weak {last : Int} {l : List Ob} (h : chk last l = true) : ∀ x ∈ l, 0 ≤ x.weak ∧ x.weak ≤ 3 := by
  induction l generalizing last with
  | nil => simp
  | cons x r ih =>
    obtain ⟨_, _, h3, h4, h5⟩ := chk_cons h
    intro y hy
    rcases List.mem_cons.1 hy with rfl | hy
    · exact ⟨h3, h4⟩
    · exact ih h5 y hy
theorem chk_drop {last : Int} {l : List Ob} {i : Nat} {y : Ob} (hy : l[i]? = some y) : chk last (l.drop i) = (!(decide (y.id ≤ last) || (decide (y.size < 0) || (decide (y.weak < 0) || decide (3 < y.weak)))) && chk y.id (l.drop (i + 1))) := by
  have h : l.drop i = y :: l.drop (i + 1) := by
    obtain ⟨hi, e⟩ := List.getElem?_eq_some_iff.1 hy
    rw [← e]; exact List.drop_eq_getElem_cons hi
  rw [h]; rfl
abbrev Asc (l : List Ob) : Prop := l.Pairwise (fun x y => x.id < y.id)
theorem asc_lt {l : List Ob} (h : Asc l) {i j : Nat} {x y : Ob} (hx : l[i]? = some x) (hy : l[j]? = some y) (hij : i < j) : x.id < y.id := by
  obtain ⟨hi, e1⟩ := List.getElem?_eq_some_iff.1 hx
  obtain ⟨hj, e2⟩ := List.getElem?_eq_some_iff.1 hy
  rw [← e1, ← e2]; exact List.pairwise_iff_getElem.1 h i j hi hj hij
theorem asc_inj {l : List Ob} (h : Asc l) {i j : Nat} {x y : Ob} (hx : l[i]? = some x) (hy : l[j]? = some y) (e : x.id = y.id) : i = j := by
  rcases Nat.lt_trichotomy i j with hij | rfl | hij
  · have := asc_lt h hx hy hij; omega
  · rfl
  · have := asc_lt h hy hx hij; omega

def fnd (l : List Ob) (id : Int) : Option Ob := l.find? fun o => decide (o.id = id)
theorem fnd_id {l : List Ob} {id : Int} {o : Ob} (h : fnd l id = some o) : o.id = id ∧ o ∈ l := by
  have h1 := List.find?_some h
  exact ⟨by simpa using h1, List.mem_of_find?_eq_some h⟩
theorem fnd_none {l : List Ob} {id : Int} (h : fnd l id = none) : ∀ o ∈ l, o.id ≠ id := by
  intro o ho
  have := List.find?_eq_none.1 h o ho
  simpa using this
theorem fnd_mem {l : List Ob} (h : Asc l) {o : Ob} (ho : o ∈ l) : fnd l o.id = some o := by
  cases hf : fnd l o.id with
  | none => exact absurd rfl (fnd_none hf o ho)
  | some p =>
    obtain ⟨h1, h2⟩ := fnd_id hf
    obtain ⟨i, hi⟩ := List.mem_iff_getElem?.1 ho
    obtain ⟨j, hj⟩ := List.mem_iff_getElem?.1 h2
    have := asc_inj h hj hi h1
    subst this
    rw [hi] at hj; rw [hj]

def keptE (weak : Int) (e : Ent) : List Int := if weak = 1 then (if e.key = 0 then [e.val] else []) else if weak = 2 then [e.key] else if weak = 3 then [] else [e.key, e.val]
theorem keptE_len (weak : Int) (e : Ent) : (keptE weak e).length ≤ 2 := by unfold keptE; split <;> (try split) <;> (try split) <;> simp
def keptO (o : Ob) : List Int := o.refs ++ o.ents.flatMap (keptE o.weak)
theorem kept_len (weak : Int) : ∀ L : List Ent, (L.flatMap (keptE weak)).length ≤ 2 * L.length
  | [] => by simp
  | e :: r => by
    have h1 := kept_len weak r; have h2 := keptE_len weak e
    simp only [List.flatMap_cons, List.length_append, List.length_cons]; omega
theorem keptO_len (o : Ob) : (keptO o).length ≤ o.refs.length + 2 * o.ents.length := by
  unfold keptO; rw [List.length_append]; have := kept_len o.weak o.ents; omega
theorem kept_take {weak : Int} {L : List Ent} {k : Nat} {e : Ent} (h : L[k]? = some e) : (L.take k).flatMap (keptE weak) ++ keptE weak e = (L.take (k + 1)).flatMap (keptE weak) := by
  rw [List.take_add_one, h]; simp [List.flatMap_append]
def pot : List Ob → List Int → Nat
  | [], _ => 0
  | o :: r, M => (if o.id ∈ M then 0 else 1 + (keptO o).length) + pot r M
theorem pot_mono {M N : List Int} (h : ∀ x ∈ M, x ∈ N) : ∀ l, pot l N ≤ pot l M
  | [] => Nat.le_refl _
  | o :: r => by
    have := pot_mono h r
    simp only [pot]
    by_cases h1 : o.id ∈ M
    · simp [h1, h _ h1]; exact this
    · by_cases h2 : o.id ∈ N <;> simp [h1, h2] <;> omega
theorem pot_add {M : List Int} {id : Int} {o : Ob} (hn : id ∉ M) : ∀ {l : List Ob}, fnd l id = some o → pot l (M ++ [id]) + 1 + (keptO o).length ≤ pot l M
  | [], h => by simp [fnd] at h
  | p :: r, h => by
    unfold fnd at h
    rw [List.find?_cons] at h
    split at h
    · rename_i hp
      injection h with h; subst h
      have hp : p.id = id := by simpa using hp
      have := pot_mono (M := M) (N := M ++ [id]) (fun x hx => List.mem_append_left _ hx) r
      simp only [pot, hp, List.mem_append, List.mem_singleton, or_true, if_true, hn, if_false]
      omega
    · rename_i hp
      have hp : p.id ≠ id := by simpa using hp
      have ih := pot_add hn (l := r) h
      simp only [pot, List.mem_append, List.mem_singleton, hp, or_false]
      omega
theorem pot_le : ∀ l : List Ob, (∀ o ∈ l, o.refs.length ≤ 400 ∧ o.ents.length ≤ 400) → ∀ M, pot l M ≤ 1201 * l.length
  | [], _, _ => by simp [pot]
  | o :: r, h, M => by
    have h1 := pot_le r (fun x hx => h x (List.mem_cons_of_mem _ hx)) M
    have h2 := h o (by simp); have h3 := keptO_len o
    simp only [pot, List.length_cons]
    split <;> omega
theorem last_pos {W : List Int} {id : Int} (h : W.getLast? = some id) : 0 < W.length := by
  cases W with
  | nil => simp at h
  | cons a r => simp
/-- The search: the stack's last one first. -/
def dfs (l : List Ob) (M W : List Int) : List Int :=
  match hw : W.getLast? with
  | none => M
  | some id =>
    match hf : fnd l id with
    | none => dfs l M W.dropLast
    | some o => if hm : id ∈ M then dfs l M W.dropLast else dfs l (M ++ [id]) (W.dropLast ++ keptO o)
termination_by pot l M + W.length
decreasing_by
  all_goals have hpos := last_pos hw
  · simp only [List.length_dropLast]; omega
  · simp only [List.length_dropLast]; omega
  · have := pot_add hm hf
    simp only [List.length_dropLast, List.length_append]; omega
theorem dfs_nil (l : List Ob) (M : List Int) : dfs l M [] = M := by
  rw [dfs]; rfl
theorem dfs_none {l : List Ob} {M W : List Int} {id : Int} (hf : fnd l id = none) : dfs l M (W ++ [id]) = dfs l M W := by
  rw [dfs]
  split
  · rename_i h; simp at h
  · rename_i id' h
    simp at h; subst h
    split
    · simp
    · rename_i o h; rw [hf] at h; cases h
theorem dfs_in {l : List Ob} {M W : List Int} {id : Int} (hm : id ∈ M) : dfs l M (W ++ [id]) = dfs l M W := by
  rw [dfs]
  split
  · rename_i h; simp at h
  · rename_i id' h
    simp at h; subst h
    split
    · simp
    · rename_i o h; rw [dif_pos hm]; simp
theorem dfs_new {l : List Ob} {M W : List Int} {id : Int} {o : Ob} (hf : fnd l id = some o) (hm : id ∉ M) : dfs l M (W ++ [id]) = dfs l (M ++ [id]) (W ++ keptO o) := by
  rw [dfs]
  split
  · rename_i h; simp at h
  · rename_i id' h
    simp at h; subst h
    split
    · rename_i h; rw [hf] at h; cases h
    · rename_i o' h; rw [hf] at h; cases h; rw [dif_neg hm]; simp
theorem dfs_ind {l : List Ob} {C : List Int → List Int → Prop} (h0 : ∀ M, C M []) (h1 : ∀ M W id, fnd l id = none ∨ id ∈ M → C M W → C M (W ++ [id]))
    (h2 : ∀ M W id o, fnd l id = some o → id ∉ M → C (M ++ [id]) (W ++ keptO o) → C M (W ++ [id])) (M W : List Int) : C M W := by
  have key : ∀ n M W, pot l M + W.length ≤ n → C M W := by
    intro n
    induction n with
    | zero =>
      intro M W h
      have : W = [] := List.eq_nil_of_length_eq_zero (by omega)
      subst this; exact h0 M
    | succ n ih =>
      intro M W h
      rcases List.eq_nil_or_concat W with rfl | ⟨W', id, rfl⟩
      · exact h0 M
      · rw [List.concat_eq_append] at h ⊢
        simp only [List.length_append, List.length_singleton] at h
        cases hf : fnd l id with
        | none => exact h1 M W' id (.inl hf) (ih M W' (by omega))
        | some o =>
          by_cases hm : id ∈ M
          · exact h1 M W' id (.inr hm) (ih M W' (by omega))
          · have := pot_add hm hf
            exact h2 M W' id o hf hm (ih _ _ (by simp only [List.length_append]; omega))
  exact key _ M W (Nat.le_refl _)
theorem dfs_skip {l : List Ob} {M W : List Int} {id : Int} (h : fnd l id = none ∨ id ∈ M) : dfs l M (W ++ [id]) = dfs l M W := by
  rcases h with h | h
  · exact dfs_none h
  · exact dfs_in h
theorem snoc_of {W : List Int} {y : Int} (h : W[W.length - 1]? = some y) : W.take (W.length - 1) ++ [y] = W := by
  obtain ⟨hi, e⟩ := List.getElem?_eq_some_iff.1 h
  have h3 : W.take (W.length - 1 + 1) = W.take (W.length - 1) ++ [y] := by rw [List.take_add_one, h]; rfl
  rw [← h3, show W.length - 1 + 1 = W.length by omega, List.take_length]

/-! ### What the search finds -/
abbrev Is (l : List Ob) (x : Int) : Prop := (fnd l x).isSome = true
inductive Rch (l : List Ob) : Int → Int → Prop
  | self {w : Int} : Is l w → Rch l w w
  | step {w y z : Int} {o : Ob} : Is l w → fnd l w = some o → y ∈ keptO o → Rch l y z → Rch l w z
theorem Rch.is {l : List Ob} {w x : Int} (h : Rch l w x) : Is l w ∧ Is l x := by
  induction h with
  | self h => exact ⟨h, h⟩
  | step h _ _ _ ih => exact ⟨h, ih.2⟩
structure Found (l : List Ob) (M W N : List Int) : Prop where
  old : ∀ x ∈ M, x ∈ N
  got : ∀ w ∈ W, Is l w → w ∈ N
  closed : ∀ x ∈ N, x ∉ M → ∃ o, fnd l x = some o ∧ ∀ z ∈ keptO o, Is l z → z ∈ N
  sound : ∀ x ∈ N, x ∈ M ∨ ∃ w ∈ W, Rch l w x
  nodup : M.Nodup → N.Nodup
  len : M.length ≤ N.length
theorem found (l : List Ob) (M W : List Int) : Found l M W (dfs l M W) := by
  refine dfs_ind (l := l) (C := fun M W => Found l M W (dfs l M W)) ?_ ?_ ?_ M W
  · intro M
    rw [dfs_nil]
    exact ⟨fun x h => h, by simp, fun x h1 h2 => absurd h1 h2, fun x h => .inl h, fun h => h, Nat.le_refl _⟩
  · intro M W id hs ih
    rw [dfs_skip hs]
    refine ⟨ih.old, fun w hw hi => ?_, ih.closed, fun x hx => ?_, ih.nodup, ih.len⟩
    · rcases List.mem_append.1 hw with h | h
      · exact ih.got w h hi
      · simp at h; subst h
        rcases hs with h | h
        · rw [Is, h] at hi; cases hi
        · exact ih.old _ h
    · rcases ih.sound x hx with h | ⟨w, h, r⟩
      · exact .inl h
      · exact .inr ⟨w, List.mem_append_left _ h, r⟩
  · intro M W id o hf hm ih
    rw [dfs_new hf hm]
    have hid : Is l id := by rw [Is, hf]; rfl
    have hin : id ∈ dfs l (M ++ [id]) (W ++ keptO o) := ih.old _ (by simp)
    refine ⟨fun x h => ih.old x (List.mem_append_left _ h), fun w hw hi => ?_, fun x hx hn => ?_, fun x hx => ?_, fun h => ih.nodup ?_, ?_⟩
    · rcases List.mem_append.1 hw with h | h
      · exact ih.got w (List.mem_append_left _ h) hi
      · simp at h; subst h; exact hin
    · by_cases e : x = id
      · subst e; exact ⟨o, hf, fun z hz hi => ih.got z (List.mem_append_right _ hz) hi⟩
      · exact ih.closed x hx (by simp [hn, e])
    · rcases ih.sound x hx with h | ⟨w, h, r⟩
      · rcases List.mem_append.1 h with h | h
        · exact .inl h
        · simp at h; subst h; exact .inr ⟨x, by simp, .self hid⟩
      · rcases List.mem_append.1 h with h | h
        · exact .inr ⟨w, List.mem_append_left _ h, r⟩
        · exact .inr ⟨id, by simp, .step hid hf h r⟩
    · rw [List.nodup_append]; exact ⟨h, by simp, fun a ha b hb => by simp at hb; subst hb; exact fun e => hm (e ▸ ha)⟩
    · have := ih.len; simp only [List.length_append, List.length_singleton] at this; omega
def Clo (l : List Ob) (M : List Int) : Prop := (∀ x ∈ M, Is l x) ∧ ∀ x ∈ M, ∀ o, fnd l x = some o → ∀ z ∈ keptO o, Is l z → z ∈ M
theorem clo_nil (l : List Ob) : Clo l [] := ⟨by simp, by simp⟩
theorem rch_in {l : List Ob} {N : List Int} (hc : Clo l N) {w x : Int} (h : Rch l w x) : w ∈ N → x ∈ N := by
  induction h with
  | self _ => exact fun h => h
  | step _ hf hy r ih => exact fun h => ih (hc.2 _ h _ hf _ hy r.is.1)
theorem clo_dfs {l : List Ob} {M W : List Int} (hc : Clo l M) : Clo l (dfs l M W) := by
  have f := found l M W
  refine ⟨fun x hx => ?_, fun x hx o hf z hz hi => ?_⟩
  · rcases f.sound x hx with h | ⟨w, _, r⟩
    · exact hc.1 x h
    · exact r.is.2
  · by_cases hm : x ∈ M
    · exact f.old z (hc.2 x hm o hf z hz hi)
    · obtain ⟨o', h1, h2⟩ := f.closed x hx hm
      rw [hf] at h1; cases h1; exact h2 z hz hi
theorem mem_dfs {l : List Ob} {M W : List Int} (hc : Clo l M) (x : Int) : x ∈ dfs l M W ↔ x ∈ M ∨ ∃ w ∈ W, Rch l w x := by
  have f := found l M W
  refine ⟨f.sound x, ?_⟩
  rintro (h | ⟨w, hw, r⟩)
  · exact f.old x h
  · exact rch_in (clo_dfs hc) r (f.got w hw r.is.1)
/-- Whether anything was found. -/
theorem dfs_fresh {l : List Ob} {M W : List Int} (hc : Clo l M) (hn : M.Nodup) : M.length < (dfs l M W).length ↔ ∃ w ∈ W, Is l w ∧ w ∉ M := by
  have f := found l M W
  constructor
  · intro h
    rcases Classical.em (∃ w ∈ W, Is l w ∧ w ∉ M) with h1 | h1
    · exact h1
    · exfalso
      have hsub : ∀ x ∈ dfs l M W, x ∈ M := fun x hx => by
        rcases f.sound x hx with h2 | ⟨w, hw, r⟩
        · exact h2
        · rcases Classical.em (w ∈ M) with h3 | h3
          · exact rch_in hc r h3
          · exact absurd ⟨w, hw, r.is.1, h3⟩ h1
      have := (f.nodup hn).length_le_of_subset hsub
      omega
  · rintro ⟨w, hw, hi, hm⟩
    have hin := f.got w hw hi
    have h1 : (w :: M).Nodup := List.nodup_cons.2 ⟨hm, hn⟩
    have := h1.length_le_of_subset (l₂ := dfs l M W) (fun x hx => by
      rcases List.mem_cons.1 hx with rfl | h
      · exact hin
      · exact f.old x h)
    simp at this; omega
end Go.Proofs.Ytjdlkemmcnncaaa
