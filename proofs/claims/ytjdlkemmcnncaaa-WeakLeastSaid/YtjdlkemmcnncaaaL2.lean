/-
  The rounds over the ephemerons, in plain Lean; what is alive is the least set that the roots, what objects keep, and the ephemerons ask for. No condition but those that each law says.
-/
import Derived.Test.YtjdlkemmcnncaaaL1
set_option linter.unusedSimpArgs false
set_option linter.unusedVariables false
namespace Go.Proofs.Ytjdlkemmcnncaaa
open Go.S

theorem srt_perm {A B : List Int} (h : A.Perm B) : srt A = srt B := by
  have tr : ∀ a b c : Int, decide (a ≤ b) = true → decide (b ≤ c) = true → decide (a ≤ c) = true := fun a b c h1 h2 => by simp at *; omega
  have to : ∀ a b : Int, (decide (a ≤ b) || decide (b ≤ a)) = true := fun a b => by simp; omega
  refine List.Perm.eq_of_pairwise (le := fun a b => decide (a ≤ b) = true) (fun a b _ _ h1 h2 => by simp at *; omega) (List.pairwise_mergeSort tr to A) (List.pairwise_mergeSort tr to B) ?_
  exact (List.mergeSort_perm A _).trans (h.trans (List.mergeSort_perm B _).symm)
theorem srt_asc {A : List Int} (h : A.Pairwise (· < ·)) : srt A = A := List.mergeSort_of_pairwise (h.imp fun h => by simp; omega)
theorem srt_lt {A : List Int} (h : A.Nodup) : (srt A).Pairwise (· < ·) := by
  have tr : ∀ a b c : Int, decide (a ≤ b) = true → decide (b ≤ c) = true → decide (a ≤ c) = true := fun a b c h1 h2 => by simp at *; omega
  have to : ∀ a b : Int, (decide (a ≤ b) || decide (b ≤ a)) = true := fun a b => by simp; omega
  have h1 : (srt A).Pairwise (fun a b => decide (a ≤ b) = true) := List.pairwise_mergeSort tr to A
  have h2 : (srt A).Nodup := (List.mergeSort_perm A _).symm.nodup h
  exact (h1.and h2).imp fun ⟨h1, h2⟩ => by simp at h1; omega
theorem mem_srt {A : List Int} {x : Int} : x ∈ srt A ↔ x ∈ A := (List.mergeSort_perm A _).mem_iff

def tabs (l : List Ob) : List Ob := l.filter fun o => decide (o.weak = 1)
def stepE (l : List Ob) (s : List Int × Bool) (e : Ent) : List Int × Bool := if e.key ∈ s.1 then (dfs l s.1 [e.val], s.2 || decide (s.1.length < (dfs l s.1 [e.val]).length)) else s
def stepT (l : List Ob) (s : List Int × Bool) (o : Ob) : List Int × Bool := if o.id ∈ s.1 then o.ents.foldl (stepE l) s else s
def rnd (l : List Ob) (M : List Int) : List Int × Bool := (tabs l).foldl (stepT l) (M, false)
def runs (l : List Ob) : Nat → List Int × Nat → List Int × Nat
  | 0, s => s
  | k + 1, s => if (rnd l s.1).2 = true then runs l k ((rnd l s.1).1, s.2 + 1) else ((rnd l s.1).1, s.2)
def rootsP (l : List Ob) (M : List Int) (R : List Int) : List Int := R.foldl (fun M id => dfs l M [id]) M
def allP (l : List Ob) (R : List Int) : List Int × Nat := runs l (l.length + 1) (rootsP l [] R, 1)
def allR (l : List Ob) (R : List Int) : List Int × Nat := runs l (l.length + 1) (dfs l [] R, 1)
theorem fold_take {α β : Type} {f : β → α → β} {L : List α} {k : Nat} {e : α} {s : β} (h : L[k]? = some e) : (L.take (k + 1)).foldl f s = f ((L.take k).foldl f s) e := by
  rw [List.take_add_one, h, List.foldl_append]; rfl
theorem fold_end {α β : Type} {f : β → α → β} {L : List α} {k : Nat} {s : β} (h : L.length ≤ k) : (L.take k).foldl f s = L.foldl f s := by rw [List.take_of_length_le h]

/-- A set of objects that is closed, each one once. -/
structure Good (l : List Ob) (M : List Int) : Prop where
  clo : Clo l M
  nodup : M.Nodup
theorem good_nil (l : List Ob) : Good l [] := ⟨clo_nil l, List.nodup_nil⟩
theorem Good.dfs {l : List Ob} {M : List Int} (h : Good l M) (W : List Int) : Good l (dfs l M W) := ⟨clo_dfs h.clo, (found l M W).nodup h.nodup⟩
theorem Good.len {l : List Ob} {M : List Int} (h : Good l M) : M.length ≤ l.length := by
  have := h.nodup.length_le_of_subset (l₂ := l.map Ob.id) fun x hx => by
    have := h.clo.1 x hx
    obtain ⟨o, ho⟩ := Option.isSome_iff_exists.1 this
    obtain ⟨h1, h2⟩ := fnd_id ho
    exact List.mem_map.2 ⟨o, h2, h1⟩
  rwa [List.length_map] at this
theorem Good.roots {l : List Ob} (R : List Int) : ∀ {M : List Int}, Good l M → Good l (rootsP l M R) := by
  induction R with
  | nil => exact fun h => h
  | cons a r ih => exact fun h => ih (h.dfs [a])
/-- What a step may do: it grows; the mark says whether. -/
structure Step (l : List Ob) (s t : List Int × Bool) : Prop where
  good : Good l s.1 → Good l t.1
  sub : ∀ x ∈ s.1, x ∈ t.1
  len : s.1.length ≤ t.1.length
  flag : t.2 = (s.2 || decide (s.1.length < t.1.length))
theorem Step.refl {l : List Ob} (s : List Int × Bool) : Step l s s := ⟨fun h => h, fun x h => h, Nat.le_refl _, by simp⟩
theorem Step.trans {l : List Ob} {s t u : List Int × Bool} (h : Step l s t) (k : Step l t u) : Step l s u := by
  refine ⟨fun g => k.good (h.good g), fun x hx => k.sub x (h.sub x hx), Nat.le_trans h.len k.len, ?_⟩
  rw [k.flag, h.flag, Bool.or_assoc]
  congr 1
  rw [← Bool.decide_or, decide_eq_decide]
  have := h.len; have := k.len
  omega
theorem step_e (l : List Ob) (s : List Int × Bool) (e : Ent) : Step l s (stepE l s e) := by
  unfold stepE
  split
  · have f := found l s.1 [e.val]
    exact ⟨fun g => g.dfs _, f.old, f.len, rfl⟩
  · exact Step.refl s
theorem step_fold {α : Type} {l : List Ob} {f : List Int × Bool → α → List Int × Bool} (hf : ∀ s a, Step l s (f s a)) (L : List α) : ∀ s, Step l s (L.foldl f s) := by
  induction L with
  | nil => exact fun s => Step.refl s
  | cons a r ih => exact fun s => (hf s a).trans (ih _)
theorem step_t (l : List Ob) (s : List Int × Bool) (o : Ob) : Step l s (stepT l s o) := by
  unfold stepT
  split
  · exact step_fold (step_e l) o.ents s
  · exact Step.refl s
theorem step_r (l : List Ob) (M : List Int) : Step l (M, false) (rnd l M) := step_fold (step_t l) (tabs l) (M, false)
theorem rnd_flag (l : List Ob) (M : List Int) : (rnd l M).2 = decide (M.length < (rnd l M).1.length) := by rw [(step_r l M).flag]; simp
theorem runs_step {l : List Ob} {k : Nat} {M : List Int} {n : Nat} (h : (rnd l M).2 = true) : runs l (k + 1) (M, n) = runs l k ((rnd l M).1, n + 1) := by simp [runs, h]
theorem runs_end {l : List Ob} {k : Nat} {M : List Int} {n : Nat} (h : (rnd l M).2 = false) : runs l (k + 1) (M, n) = ((rnd l M).1, n) := by simp [runs, h]
theorem good_runs {l : List Ob} : ∀ (k : Nat) (s : List Int × Nat), Good l s.1 → Good l (runs l k s).1
  | 0, s, h => h
  | k + 1, s, h => by
    unfold runs
    have hg := (step_r l s.1).good h
    split
    · exact good_runs k _ hg
    · exact hg

/-! ### Sets that are the same -/
def Eqv (M N : List Int) : Prop := ∀ x, x ∈ M ↔ x ∈ N
theorem Eqv.len {M N : List Int} (h : Eqv M N) (h1 : M.Nodup) (h2 : N.Nodup) : M.length = N.length :=
  Nat.le_antisymm (h1.length_le_of_subset fun x hx => (h x).1 hx) (h2.length_le_of_subset fun x hx => (h x).2 hx)
theorem eqv_dfs {l : List Ob} {M N V W : List Int} (hM : Good l M) (hN : Good l N) (h : Eqv M N) (hw : Eqv V W) : Eqv (dfs l M V) (dfs l N W) := fun x => by
  rw [mem_dfs hM.clo, mem_dfs hN.clo, h x]
  constructor
  · rintro (h | ⟨w, h1, h2⟩)
    · exact .inl h
    · exact .inr ⟨w, (hw w).1 h1, h2⟩
  · rintro (h | ⟨w, h1, h2⟩)
    · exact .inl h
    · exact .inr ⟨w, (hw w).2 h1, h2⟩
structure Same2 (l : List Ob) (s t : List Int × Bool) : Prop where
  g1 : Good l s.1
  g2 : Good l t.1
  eqv : Eqv s.1 t.1
  flag : s.2 = t.2
theorem same_e {l : List Ob} {s t : List Int × Bool} (h : Same2 l s t) (e : Ent) : Same2 l (stepE l s e) (stepE l t e) := by
  unfold stepE
  by_cases h1 : e.key ∈ s.1
  · rw [if_pos h1, if_pos ((h.eqv _).1 h1)]
    have hd := eqv_dfs (V := [e.val]) (W := [e.val]) h.g1 h.g2 h.eqv (fun _ => Iff.rfl)
    refine ⟨h.g1.dfs _, h.g2.dfs _, hd, ?_⟩
    show (s.2 || _) = (t.2 || _)
    rw [h.flag, h.eqv.len h.g1.nodup h.g2.nodup, hd.len (h.g1.dfs _).nodup (h.g2.dfs _).nodup]
  · rw [if_neg h1, if_neg fun h2 => h1 ((h.eqv _).2 h2)]; exact h
theorem same_fold {α : Type} {l : List Ob} {f : List Int × Bool → α → List Int × Bool} (hf : ∀ s t a, Same2 l s t → Same2 l (f s a) (f t a)) (L : List α) : ∀ {s t}, Same2 l s t → Same2 l (L.foldl f s) (L.foldl f t) := by
  induction L with
  | nil => exact fun h => h
  | cons a r ih => exact fun h => ih (hf _ _ a h)
theorem same_t {l : List Ob} {s t : List Int × Bool} (o : Ob) (h : Same2 l s t) : Same2 l (stepT l s o) (stepT l t o) := by
  unfold stepT
  by_cases h1 : o.id ∈ s.1
  · rw [if_pos h1, if_pos ((h.eqv _).1 h1)]; exact same_fold (fun s t e h => same_e h e) o.ents h
  · rw [if_neg h1, if_neg fun h2 => h1 ((h.eqv _).2 h2)]; exact h
theorem same_r {l : List Ob} {M N : List Int} (h1 : Good l M) (h2 : Good l N) (h : Eqv M N) : Same2 l (rnd l M) (rnd l N) := same_fold (fun s t o h => same_t o h) (tabs l) ⟨h1, h2, h, rfl⟩
theorem same_runs {l : List Ob} : ∀ (k : Nat) {M N : List Int} (n : Nat), Good l M → Good l N → Eqv M N → Eqv (runs l k (M, n)).1 (runs l k (N, n)).1 ∧ (runs l k (M, n)).2 = (runs l k (N, n)).2
  | 0, M, N, n, h1, h2, h => ⟨h, rfl⟩
  | k + 1, M, N, n, h1, h2, h => by
    have hs := same_r h1 h2 h
    by_cases hf : (rnd l M).2 = true
    · rw [runs_step hf, runs_step (hs.flag ▸ hf)]
      exact same_runs k (n + 1) hs.g1 hs.g2 hs.eqv
    · have hf : (rnd l M).2 = false := by simpa using hf
      rw [runs_end hf, runs_end (hs.flag ▸ hf)]
      exact ⟨hs.eqv, rfl⟩
theorem mem_roots {l : List Ob} (R : List Int) : ∀ {M : List Int}, Good l M → ∀ x, x ∈ rootsP l M R ↔ x ∈ M ∨ ∃ w ∈ R, Rch l w x := by
  induction R with
  | nil => intro M h x; simp [rootsP]
  | cons a r ih =>
    intro M h x
    show x ∈ rootsP l (dfs l M [a]) r ↔ _
    rw [ih (h.dfs [a]) x, mem_dfs h.clo]
    simp [or_assoc]
theorem all_same (l : List Ob) (R : List Int) : Eqv (allP l R).1 (allR l R).1 ∧ (allP l R).2 = (allR l R).2 :=
  same_runs _ 1 ((good_nil l).roots R) ((good_nil l).dfs R) fun x => by rw [mem_roots R (good_nil l) x, mem_dfs (clo_nil l)]
/-- The list of what is alive. -/
def live (l : List Ob) (M : List Int) : List Int := (l.filter fun o => decide (o.id ∈ M)).map Ob.id
theorem live_asc {l : List Ob} (h : Asc l) (M : List Int) : (live l M).Pairwise (· < ·) := by
  unfold live; rw [List.pairwise_map]; exact h.filter _
theorem mem_live {l : List Ob} {M : List Int} (hM : Clo l M) (x : Int) : x ∈ live l M ↔ x ∈ M := by
  simp only [live, List.mem_map, List.mem_filter, decide_eq_true_eq]
  constructor
  · rintro ⟨o, ⟨_, h⟩, rfl⟩; exact h
  · intro h
    obtain ⟨o, ho⟩ := Option.isSome_iff_exists.1 (hM.1 x h)
    obtain ⟨h1, h2⟩ := fnd_id ho
    exact ⟨o, ⟨h2, h1 ▸ h⟩, h1⟩
theorem srt_live {l : List Ob} (h : Asc l) {M : List Int} (hM : Good l M) : srt M = live l M := by
  have hp : M.Perm (live l M) := (List.perm_ext_iff_of_nodup hM.nodup ((live_asc h M).imp fun h => by omega)).2 fun x => (mem_live hM.clo x).symm
  rw [srt_perm hp, srt_asc (live_asc h M)]
theorem live_eqv {l : List Ob} {M N : List Int} (h : Eqv M N) : live l M = live l N := by
  unfold live
  congr 1
  apply List.filter_congr
  intro o _
  rw [decide_eq_decide]; exact h o.id
/-! ### The least set -/
/-- What a set must hold: the roots, what its objects keep, and the values of ephemerons with a key in it. -/
structure Closed (l : List Ob) (R : List Int) (p : Int → Prop) : Prop where
  roots : ∀ r ∈ R, Is l r → p r
  kept : ∀ x o, p x → fnd l x = some o → ∀ z ∈ keptO o, Is l z → p z
  eph : ∀ x o, p x → fnd l x = some o → o.weak = 1 → ∀ e ∈ o.ents, p e.key → Is l e.val → p e.val
theorem rch_p {l : List Ob} {R : List Int} {p : Int → Prop} (h : Closed l R p) {w x : Int} (r : Rch l w x) : p w → p x := by
  induction r with
  | self _ => exact fun h => h
  | step _ hf hy r ih => exact fun hp => ih (h.kept _ _ hp hf _ hy r.is.1)
theorem least_dfs {l : List Ob} {R : List Int} {p : Int → Prop} (h : Closed l R p) {M W : List Int} (hM : ∀ x ∈ M, p x) (hW : ∀ w ∈ W, Is l w → p w) : ∀ x ∈ dfs l M W, p x := fun x hx => by
  rcases (found l M W).sound x hx with h1 | ⟨w, h1, r⟩
  · exact hM x h1
  · exact rch_p h r (hW w h1 r.is.1)
theorem least_fold {α : Type} {p : Int → Prop} {f : List Int × Bool → α → List Int × Bool} {L : List α} (hf : ∀ s, ∀ a ∈ L, (∀ x ∈ s.1, p x) → ∀ x ∈ (f s a).1, p x) : ∀ {s : List Int × Bool}, (∀ x ∈ s.1, p x) → ∀ x ∈ (L.foldl f s).1, p x := by
  induction L with
  | nil => exact fun h => h
  | cons a r ih => exact fun {s} h => ih (fun s b hb => hf s b (List.mem_cons_of_mem _ hb)) (hf s a (by simp) h)
theorem least_rnd {l : List Ob} (hl : Asc l) {R : List Int} {p : Int → Prop} (h : Closed l R p) {M : List Int} (hM : ∀ x ∈ M, p x) : ∀ x ∈ (rnd l M).1, p x := by
  refine least_fold (fun s o ho hs => ?_) hM
  unfold stepT
  split
  · rename_i hin
    have ho' : o ∈ l ∧ o.weak = 1 := by simpa [tabs] using ho
    refine least_fold (fun s' e he hs' => ?_) hs
    unfold stepE
    split
    · rename_i hk
      refine least_dfs h hs' fun w hw hi => ?_
      simp at hw; subst hw
      exact h.eph o.id o (hs _ hin) (fnd_mem hl ho'.1) ho'.2 e he (hs' _ hk) hi
    · exact hs'
  · exact hs
theorem least_runs {l : List Ob} (hl : Asc l) {R : List Int} {p : Int → Prop} (h : Closed l R p) : ∀ (k : Nat) (s : List Int × Nat), (∀ x ∈ s.1, p x) → ∀ x ∈ (runs l k s).1, p x
  | 0, s, hs => hs
  | k + 1, s, hs => by
    unfold runs
    split
    · exact least_runs hl h k _ (least_rnd hl h hs)
    · exact least_rnd hl h hs
theorem least_all {l : List Ob} (hl : Asc l) {R : List Int} {p : Int → Prop} (h : Closed l R p) : ∀ x ∈ (allR l R).1, p x :=
  least_runs hl h _ _ (least_dfs h (by simp) h.roots)
/-- A round that finds nothing: the ephemerons hold. -/
theorem still_fold {α : Type} {l : List Ob} {f : List Int × Bool → α → List Int × Bool} (hf : ∀ s a, Step l s (f s a)) (hid : ∀ s a, s.1.length = (f s a).1.length → f s a = s) {L : List α} : ∀ {s : List Int × Bool}, (L.foldl f s).1.length = s.1.length → ∀ a ∈ L, f s a = s := by
  induction L with
  | nil => intro s _ a ha; cases ha
  | cons b r ih =>
    intro s h a ha
    have h1 := (hf s b).len
    have h2 := (step_fold hf r (f s b)).len
    have h3 : ((b :: r).foldl f s).1.length = s.1.length := h
    rw [List.foldl_cons] at h3
    have hb := hid s b (by omega)
    rcases List.mem_cons.1 ha with rfl | ha
    · exact hb
    · exact ih (by rw [hb] at h3; exact h3) a ha
theorem dfs_same_len {l : List Ob} {M : List Int} : ∀ (W : List Int), (dfs l M W).length = M.length → dfs l M W = M := fun W h => by
  have key : ∀ M W, (dfs l M W).length = M.length → dfs l M W = M := by
    refine dfs_ind (l := l) (C := fun M W => (dfs l M W).length = M.length → dfs l M W = M) ?_ ?_ ?_
    · intro M _; exact dfs_nil l M
    · intro M W id hs ih h; rw [dfs_skip hs] at h ⊢; exact ih h
    · intro M W id o hf hm ih h
      rw [dfs_new hf hm] at h
      have := (found l (M ++ [id]) (W ++ keptO o)).len
      simp only [List.length_append, List.length_singleton] at this
      omega
  exact key M W h
theorem stepE_id {l : List Ob} (s : List Int × Bool) (e : Ent) (h : s.1.length = (stepE l s e).1.length) : stepE l s e = s := by
  unfold stepE at h ⊢
  split
  · rename_i hk
    rw [if_pos hk] at h
    have := dfs_same_len [e.val] h.symm
    rw [this]; simp
  · rfl
theorem fold_id {α : Type} {l : List Ob} {f : List Int × Bool → α → List Int × Bool} (hf : ∀ s a, Step l s (f s a)) (hid : ∀ s a, s.1.length = (f s a).1.length → f s a = s) : ∀ (L : List α) (s : List Int × Bool), s.1.length = (L.foldl f s).1.length → L.foldl f s = s
  | [], s, _ => rfl
  | b :: r, s, h => by
    rw [List.foldl_cons] at h ⊢
    have h1 := (hf s b).len
    have h2 := (step_fold hf r (f s b)).len
    have hb := hid s b (by omega)
    rw [hb] at h ⊢
    exact fold_id hf hid r s h
theorem stepT_id {l : List Ob} (s : List Int × Bool) (o : Ob) (h : s.1.length = (stepT l s o).1.length) : stepT l s o = s := by
  unfold stepT at h ⊢
  split
  · rename_i hk
    rw [if_pos hk] at h
    exact fold_id (step_e l) stepE_id o.ents s h
  · rfl
theorem rnd_still {l : List Ob} {M : List Int} (h : (rnd l M).2 = false) : (rnd l M).1 = M := by
  rw [rnd_flag, decide_eq_false_iff_not] at h
  have h1 := (step_r l M).len
  have : rnd l M = (M, false) := fold_id (step_t l) stepT_id (tabs l) (M, false) (by show M.length = (rnd l M).1.length; have : M.length ≤ (rnd l M).1.length := h1; omega)
  rw [this]
theorem rnd_eph {l : List Ob} {M : List Int} (h : (rnd l M).2 = false) {o : Ob} (ho : o ∈ l) (hw : o.weak = 1) (hin : o.id ∈ M) {e : Ent} (he : e ∈ o.ents) (hk : e.key ∈ M) (hi : Is l e.val) : e.val ∈ M := by
  have hlen : ((tabs l).foldl (stepT l) (M, false)).1.length = M.length := by
    rw [show ((tabs l).foldl (stepT l) (M, false)) = rnd l M from rfl, rnd_still h]
  have h1 := still_fold (step_t l) stepT_id hlen o (by simp [tabs, ho, hw])
  unfold stepT at h1
  rw [if_pos hin] at h1
  have h2 := still_fold (step_e l) stepE_id (L := o.ents) (s := (M, false)) (by rw [h1]) e he
  unfold stepE at h2
  rw [if_pos hk] at h2
  have h3 : dfs l M [e.val] = M := congrArg Prod.fst h2
  rw [← h3]; exact (found l M [e.val]).got _ (by simp) hi
/-- The rounds end. -/
theorem runs_closed {l : List Ob} : ∀ (k : Nat) (s : List Int × Nat), Good l s.1 → l.length < k + s.1.length → (rnd l (runs l k s).1).2 = false
  | 0, s, hg, h => by have := hg.len; omega
  | k + 1, s, hg, h => by
    have hs := step_r l s.1
    unfold runs
    split
    · rename_i hf
      rw [rnd_flag, decide_eq_true_eq] at hf
      exact runs_closed k _ (hs.good hg) (by show l.length < k + (rnd l s.1).1.length; omega)
    · rename_i hf
      have hf : (rnd l s.1).2 = false := by simpa using hf
      show (rnd l (rnd l s.1).1).2 = false
      rw [rnd_still hf]; exact hf
theorem runs_sub {l : List Ob} : ∀ (k : Nat) (s : List Int × Nat), ∀ x ∈ s.1, x ∈ (runs l k s).1
  | 0, s, x, h => h
  | k + 1, s, x, h => by
    unfold runs
    have h1 := (step_r l s.1).sub x h
    split
    · exact runs_sub k _ x h1
    · exact h1
theorem all_good (l : List Ob) (R : List Int) : Good l (allR l R).1 := good_runs _ _ ((good_nil l).dfs R)
theorem allP_good (l : List Ob) (R : List Int) : Good l (allP l R).1 := good_runs _ _ ((good_nil l).roots R)
theorem all_closed {l : List Ob} (hl : Asc l) (R : List Int) : Closed l R (· ∈ (allR l R).1) := by
  have hg := all_good l R
  refine ⟨fun r hr hi => runs_sub _ _ r ((found l [] R).got r hr hi), fun x o hx hf z hz hi => hg.clo.2 x hx o hf z hz hi, fun x o hx hf hw e he hk hi => ?_⟩
  obtain ⟨h1, h2⟩ := fnd_id hf
  exact rnd_eph (runs_closed _ _ ((good_nil l).dfs R) (by show l.length < l.length + 1 + _; omega)) h2 hw (by rw [h1]; exact hx) he hk hi
/-- The number of rounds. -/
theorem runs_n {l : List Ob} : ∀ (k : Nat) (s : List Int × Nat), s.2 ≤ (runs l k s).2 ∧ (runs l k s).2 ≤ s.2 + k
  | 0, s => ⟨Nat.le_refl _, Nat.le_refl _⟩
  | k + 1, s => by
    unfold runs
    split
    · have := runs_n (l := l) k ((rnd l s.1).1, s.2 + 1)
      simp only at this ⊢
      omega
    · simp only; omega
end Go.Proofs.Ytjdlkemmcnncaaa
