/-
  Reachability by all references: as a search with a stack, and with a queue. No condition but those that each law says.
-/
import Derived.Test.YtjdlkemmcnncaaaL5
set_option linter.unusedSimpArgs false
set_option linter.unusedVariables false
namespace Go.Proofs.Ytjdlkemmcnncaaa
open Go.S
def allE (e : Ent) : List Int := [e.key, e.val]
def allO (o : Ob) : List Int := o.refs ++ o.ents.flatMap allE
def flatO (o : Ob) : Ob := { o with weak := 0 }
theorem keptE_flat (e : Ent) : keptE 0 e = allE e := rfl
theorem keptO_flat (o : Ob) : keptO (flatO o) = allO o := by
  unfold keptO allO
  rw [show keptE (flatO o).weak = allE from funext keptE_flat]; rfl
theorem keptE_sub {w : Int} {e : Ent} {z : Int} (h : z ∈ keptE w e) : z ∈ allE e := by
  unfold keptE at h
  unfold allE
  split at h
  · split at h
    · simp at h; simp [h]
    · cases h
  · split at h
    · simp at h; simp [h]
    · split at h
      · cases h
      · exact h
theorem kept_sub {o : Ob} {z : Int} (h : z ∈ keptO o) : z ∈ allO o := by
  rcases List.mem_append.1 h with h | h
  · exact List.mem_append_left _ h
  · obtain ⟨e, he, hz⟩ := List.mem_flatMap.1 h
    exact List.mem_append_right _ (List.mem_flatMap.2 ⟨e, he, keptE_sub hz⟩)
theorem val_all {o : Ob} {e : Ent} (h : e ∈ o.ents) : e.val ∈ allO o := List.mem_append_right _ (List.mem_flatMap.2 ⟨e, h, by simp [allE]⟩)
theorem fnd_flat (l : List Ob) (id : Int) : fnd (l.map flatO) id = (fnd l id).map flatO := by
  unfold fnd; rw [List.find?_map]; rfl
theorem is_flat {l : List Ob} {x : Int} : Is (l.map flatO) x ↔ Is l x := by
  unfold Is; rw [fnd_flat, Option.isSome_map]
/-- What is reached from the roots by all references. -/
def reachS (l : List Ob) (R : List Int) : List Int := dfs (l.map flatO) [] R
theorem mem_reachS {l : List Ob} {R : List Int} {x : Int} : x ∈ reachS l R ↔ ∃ w ∈ R, Rch (l.map flatO) w x := by
  unfold reachS; rw [mem_dfs (clo_nil _)]; simp
theorem reachS_all {l : List Ob} {R : List Int} {x z : Int} {o : Ob} (hx : x ∈ reachS l R) (hf : fnd l x = some o) (hz : z ∈ allO o) (hi : Is l z) : z ∈ reachS l R :=
  (clo_dfs (clo_nil (l.map flatO))).2 x hx (flatO o) (by rw [fnd_flat, hf]; rfl) z (by rw [keptO_flat]; exact hz) (is_flat.2 hi)
theorem reachS_root {l : List Ob} {R : List Int} {r : Int} (h : r ∈ R) (hi : Is l r) : r ∈ reachS l R := (found (l.map flatO) [] R).got r h (is_flat.2 hi)
theorem reachS_closed (l : List Ob) (R : List Int) : Closed l R (· ∈ reachS l R) :=
  ⟨fun r hr hi => reachS_root hr hi, fun x o hx hf z hz hi => reachS_all hx hf (kept_sub hz) hi, fun x o hx hf _ e he _ hi => reachS_all hx hf (val_all he) hi⟩
theorem reachS_clo (l : List Ob) (R : List Int) : Clo l (reachS l R) :=
  ⟨fun x hx => is_flat.1 ((clo_dfs (clo_nil (l.map flatO))).1 x hx), fun x hx o hf z hz hi => reachS_all hx hf (kept_sub hz) hi⟩
def reachL (l : List Ob) (R : List Int) : List Int := if chk 0 l = true then live l (reachS l R) else []
theorem reachL_ok {l : List Ob} {R : List Int} (h : chk 0 l = true) : reachL l R = live l (reachS l R) := if_pos h
theorem reachL_bad {l : List Ob} {R : List Int} (h : chk 0 l = false) : reachL l R = [] := if_neg (by rw [h]; decide)
theorem reachL_asc (l : List Ob) (R : List Int) : (reachL l R).Pairwise (· < ·) := by
  unfold reachL
  split
  · rename_i h; exact live_asc (chk_asc h) _
  · exact List.Pairwise.nil
theorem reachL_len (l : List Ob) (R : List Int) : (reachL l R).length ≤ l.length := by
  unfold reachL
  split
  · unfold live; rw [List.length_map]; exact List.length_filter_le _ _
  · exact Nat.zero_le _
theorem alive_reach {l : List Ob} {R : List Int} {x : Int} (hc : chk 0 l = true) (h : x ∈ aliveR l R) : x ∈ reachL l R := by
  rw [mem_alive hc] at h
  rw [reachL_ok hc, mem_live (reachS_clo l R)]
  exact least_all (chk_asc hc) (reachS_closed l R) x h
theorem map_flat {l : List Ob} (h : ∀ o ∈ l, o.weak = 0) : l.map flatO = l := by
  refine (List.map_congr_left fun o ho => ?_).trans (List.map_id l)
  have := h o ho
  cases o; simp only at this; subst this; rfl
theorem strong_reach {l : List Ob} {R : List Int} (hc : chk 0 l = true) (h : ∀ o ∈ l, o.weak = 0) : aliveR l R = reachL l R := by
  rw [aliveR_ok hc, reachL_ok hc]
  refine live_eqv fun x => ?_
  unfold reachS
  rw [map_flat h]
  have ht : tabs l = [] := by
    unfold tabs; rw [List.filter_eq_nil_iff]; intro o ho; have := h o ho; simp [this]
  have hr : ∀ M, rnd l M = (M, false) := fun M => by unfold rnd; rw [ht]; rfl
  unfold allR
  rw [runs_end (by rw [hr]), hr]
/-! ### A search with a queue -/
def gr1 (l : List Ob) (G : List Int) (id : Int) : List Int := if Is l id ∧ id ∉ G then G ++ [id] else G
def grs (l : List Ob) (G X : List Int) : List Int := X.foldl (gr1 l) G
theorem gr1_yes {l : List Ob} {G : List Int} {id : Int} (h : Is l id) (hn : id ∉ G) : gr1 l G id = G ++ [id] := if_pos ⟨h, hn⟩
theorem gr1_none {l : List Ob} {G : List Int} {id : Int} (h : ¬ Is l id) : gr1 l G id = G := if_neg fun q => h q.1
theorem gr1_in {l : List Ob} {G : List Int} {id : Int} (h : id ∈ G) : gr1 l G id = G := if_neg fun q => q.2 h
structure Grs (l : List Ob) (G X N : List Int) : Prop where
  pre : G <+: N
  got : ∀ z ∈ X, Is l z → z ∈ N
  sound : ∀ x ∈ N, x ∈ G ∨ x ∈ X ∧ Is l x
  nodup : G.Nodup → N.Nodup
theorem grs_ok (l : List Ob) (X : List Int) : ∀ G, Grs l G X (grs l G X) := by
  induction X with
  | nil => exact fun G => ⟨List.prefix_refl _, by simp, fun x h => .inl h, fun h => h⟩
  | cons a r ih =>
    intro G
    have k := ih (gr1 l G a)
    have e : grs l G (a :: r) = grs l (gr1 l G a) r := rfl
    rw [e]
    have hp : G <+: gr1 l G a := by
      unfold gr1; split
      · exact List.prefix_append _ _
      · exact List.prefix_refl _
    refine ⟨hp.trans k.pre, fun z hz hi => ?_, fun x hx => ?_, fun h => k.nodup ?_⟩
    · rcases List.mem_cons.1 hz with rfl | hz
      · refine k.pre.subset ?_
        by_cases hG : z ∈ G
        · exact hp.subset hG
        · rw [gr1_yes hi hG]; simp
      · exact k.got z hz hi
    · rcases k.sound x hx with h | ⟨h, hi⟩
      · unfold gr1 at h
        split at h
        · rename_i q
          rcases List.mem_append.1 h with h | h
          · exact .inl h
          · rw [List.mem_singleton.1 h]; exact .inr ⟨by simp, q.1⟩
        · exact .inl h
      · exact .inr ⟨List.mem_cons_of_mem _ h, hi⟩
    · unfold gr1
      split
      · rename_i q
        rw [List.nodup_append]; exact ⟨h, by simp, fun a ha b hb => by simp at hb; subst hb; exact fun e => q.2 (e ▸ ha)⟩
      · exact h
theorem grs_take {l : List Ob} {G X : List Int} {i : Nat} {y : Int} (h : X[i]? = some y) : grs l G (X.take (i + 1)) = gr1 l (grs l G (X.take i)) y := by
  unfold grs; exact fold_take h
structure Bf (l : List Ob) (R : List Int) (h : Nat) (G : List Int) : Prop where
  top : h ≤ G.length
  nodup : G.Nodup
  snd : ∀ x ∈ G, Is l x ∧ x ∈ reachS l R
  roots : ∀ r ∈ R, Is l r → r ∈ G
  done : ∀ (i : Nat) (x : Int) (o : Ob), i < h → G[i]? = some x → fnd l x = some o → ∀ z ∈ allO o, Is l z → z ∈ G
theorem bf_start (l : List Ob) (R : List Int) : Bf l R 0 (grs l [] R) := by
  have k := grs_ok l R []
  refine ⟨Nat.zero_le _, k.nodup List.nodup_nil, fun x hx => ?_, k.got, fun i x o hi => absurd hi (Nat.not_lt_zero _)⟩
  rcases k.sound x hx with h | ⟨h, hi⟩
  · cases h
  · exact ⟨hi, reachS_root h hi⟩
theorem pre_get {A B : List Int} (h : A <+: B) {i : Nat} (hi : i < A.length) : B[i]? = A[i]? := by
  obtain ⟨t, rfl⟩ := h
  exact List.getElem?_append_left hi
theorem Bf.step {l : List Ob} {R G : List Int} {h : Nat} {x : Int} {o : Ob} (b : Bf l R h G) (hx : G[h]? = some x) (hf : fnd l x = some o) : Bf l R (h + 1) (grs l G (allO o)) := by
  have k := grs_ok l (allO o) G
  have hlt : h < G.length := (List.getElem?_eq_some_iff.1 hx).1
  refine ⟨by have := k.pre.length_le; omega, k.nodup b.nodup, fun y hy => ?_, fun r hr hi => k.pre.subset (b.roots r hr hi), fun i y p hi hy hp z hz hz' => ?_⟩
  · rcases k.sound y hy with h1 | ⟨h1, hi⟩
    · exact b.snd y h1
    · exact ⟨hi, reachS_all (b.snd x (List.mem_of_getElem? hx)).2 hf h1 hi⟩
  · rw [pre_get k.pre (by omega)] at hy
    by_cases e : i = h
    · subst e; rw [hx] at hy; cases hy; rw [hf] at hp; cases hp; exact k.got z hz hz'
    · exact k.pre.subset (b.done i y p (by omega) hy hp z hz hz')
theorem Bf.len {l : List Ob} {R G : List Int} {h : Nat} (b : Bf l R h G) : G.length ≤ l.length := by
  have := b.nodup.length_le_of_subset (l₂ := l.map Ob.id) fun x hx => by
    obtain ⟨o, ho⟩ := Option.isSome_iff_exists.1 (b.snd x hx).1
    obtain ⟨h1, h2⟩ := fnd_id ho
    exact List.mem_map.2 ⟨o, h2, h1⟩
  rwa [List.length_map] at this
theorem Bf.fin {l : List Ob} {R G : List Int} {h : Nat} (b : Bf l R h G) (hh : G.length ≤ h) : Eqv G (reachS l R) := fun x => by
  refine ⟨fun hx => (b.snd x hx).2, fun hx => ?_⟩
  obtain ⟨w, hw, r⟩ := mem_reachS.1 hx
  have key : ∀ {w x : Int}, Rch (l.map flatO) w x → w ∈ G → x ∈ G := by
    intro w x r
    induction r with
    | self _ => exact fun h => h
    | @step w y z o hi hf hy r ih =>
      intro hw
      refine ih ?_
      rw [fnd_flat] at hf
      obtain ⟨p, hp, rfl⟩ := Option.map_eq_some_iff.1 hf
      rw [keptO_flat] at hy
      obtain ⟨i, hi'⟩ := List.mem_iff_getElem?.1 hw
      exact b.done i w p (by have := (List.getElem?_eq_some_iff.1 hi').1; omega) hi' hp y hy (is_flat.1 r.is.1)
  exact key r (b.roots w hw (is_flat.1 r.is.1))
theorem Bf.live {l : List Ob} {R G : List Int} {h : Nat} (b : Bf l R h G) (hc : chk 0 l = true) (hh : G.length ≤ h) : live l G = reachL l R := by
  rw [reachL_ok hc]; exact live_eqv (b.fin hh)
/-- The color of an object: the first h are black. -/
def colI (G : List Int) (h : Nat) (id : Int) : Int := if id ∈ G.take h then 2 else if id ∈ G then 1 else 0
theorem colI_zero {G : List Int} {h : Nat} {id : Int} (e : colI G h id = 0) : id ∉ G := by
  unfold colI at e
  split at e
  · cases e
  · split at e
    · cases e
    · assumption
theorem colI_ne {G : List Int} {h : Nat} {id : Int} (e : colI G h id ≠ 0) : id ∈ G := by
  unfold colI at e
  split at e
  · rename_i q; exact List.mem_of_mem_take q
  · split at e
    · assumption
    · exact absurd rfl e
theorem colI_new {G : List Int} {h : Nat} {id x : Int} (hh : h ≤ G.length) (hn : id ∉ G) : colI (G ++ [id]) h x = if x = id then 1 else colI G h x := by
  unfold colI
  rw [List.take_append_of_le_length hh]
  by_cases e : x = id
  · subst e; rw [if_pos rfl, if_neg fun q => hn (List.mem_of_mem_take q), if_pos (by simp)]
  · rw [if_neg e]; simp [e]
theorem colI_black {G : List Int} {h : Nat} {y x : Int} (hy : G[h]? = some y) : colI G (h + 1) x = if x = y then 2 else colI G h x := by
  unfold colI
  rw [List.take_add_one, hy]
  by_cases e : x = y
  · subst e; simp
  · simp [e]
theorem colI_end {G : List Int} {h : Nat} {x : Int} (hh : G.length ≤ h) : colI G h x = 2 ↔ x ∈ G := by
  unfold colI
  rw [List.take_of_length_le hh]
  by_cases e : x ∈ G <;> simp [e]
end Go.Proofs.Ytjdlkemmcnncaaa
