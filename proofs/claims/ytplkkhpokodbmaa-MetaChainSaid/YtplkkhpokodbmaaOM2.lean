/-
  Ordered maps beside the map of the places: what each call does to both. No program in sight.
-/
import Derived.Test.YtplkkhpokodbmaaTM
import Derived.Test.YtplkkhpokodbmaaSD
set_option linter.unusedSimpArgs false
set_option linter.unusedVariables false
namespace Go.Proofs.Ytplkkhpokodbmaa
open Go.Mem (aget aset adel aget_aset aget_adel)
/-- The map holds the place of the last slot of each key. -/
def Agr (m : List (Vl × Nat)) (S : List Slt) : Prop := ∀ k, aget m k = lastAt S k
theorem agr_nil : Agr [] [] := fun _ => rfl
theorem agr_set {m : List (Vl × Nat)} {S : List Slt} (h : Agr m S) {k : Vl} {i : Nat} {s : Slt} (hl : lastAt S k = some i) (hs : s.key = k) : Agr m (S.set i s) := fun k' => by rw [h, lastAt_set S k k' hl hs]
theorem agr_snoc {m : List (Vl × Nat)} {S : List Slt} (h : Agr m S) (k v : Vl) : Agr (aset m k S.length) (S ++ [⟨k, v, false⟩]) := fun k' => by
  rw [aget_aset, lastAt_snoc, h]
  by_cases e : k' = k
  · simp [e]
  · rw [if_neg e, if_neg (fun h => e h.symm)]
/-- What a key's look-up gives. -/
theorem last_cases {m : List (Vl × Nat)} {S : List Slt} (h : Agr m S) (hi : OInv S) (k : Vl) : (lastAt S k = none ∧ aget m k = none ∧ thereAt S k = none ∧ oget S k = zVl) ∨
    ∃ i s, lastAt S k = some i ∧ aget m k = some i ∧ S[i]? = some s ∧ s.key = k ∧ oget S k = s.val ∧ thereAt S k = if s.gone then none else some i := by
  cases hl : lastAt S k with
  | none => exact .inl ⟨rfl, by rw [h, hl], thereAt_none hl, oget_none hl⟩
  | some i =>
    obtain ⟨s, h1, h2, _⟩ := lastAt_some hl
    exact .inr ⟨i, s, rfl, by rw [h, hl], h1, h2, oget_some hl h1, thereAt_is hl h1⟩
theorem cnt_set {S : List Slt} {i : Nat} {s t : Slt} (h : S[i]? = some t) : cnt (S.set i s) + (live [t]).length = cnt S + (live [s]).length := by
  obtain ⟨h1, h2⟩ := live_set (s := s) h
  unfold cnt; rw [h1, h2]; simp only [List.length_append]; omega
theorem cnt_gone {S : List Slt} {i : Nat} {t : Slt} (h : S[i]? = some t) (hg : t.gone = false) (k : Vl) : ((cnt (S.set i ⟨k, zVl, true⟩) : Nat) : Int) = (cnt S : Int) - 1 := by
  have := cnt_set (s := ⟨k, zVl, true⟩) h
  simp [live, hg] at this; omega
theorem cnt_val {S : List Slt} {i : Nat} {t : Slt} (h : S[i]? = some t) (hg : t.gone = false) (k v : Vl) : cnt (S.set i ⟨k, v, false⟩) = cnt S := by
  have := cnt_set (s := ⟨k, v, false⟩) h
  simp [live, hg] at this; omega
theorem cnt_snoc (S : List Slt) (k v : Vl) : cnt (S ++ [⟨k, v, false⟩]) = cnt S + 1 := by unfold cnt; rw [live_snoc]; simp
theorem cnt_live (S : List Slt) : cnt (live S) = cnt S := by unfold cnt; rw [live_live]
theorem osetL_bad {S : List Slt} {k v : Vl} (h : okKey k = false ∨ validB v = false) : osetL S k v = S := by
  unfold osetL
  rcases h with h | h
  · rw [if_pos h]
  · rw [if_pos h]; split <;> rfl
theorem osetL_rem {S : List Slt} {k v : Vl} (h1 : okKey k = true) (h2 : validB v = true) (h0 : v.kind = 0) : osetL S k v = match thereAt S k with | some i => S.set i ⟨k, zVl, true⟩ | none => S := by
  unfold osetL; rw [if_neg (by rw [h1]; decide), if_neg (by rw [h2]; decide), if_pos h0]; cases thereAt S k <;> rfl
theorem osetL_put {S : List Slt} {k v : Vl} (h1 : okKey k = true) (h2 : validB v = true) (h0 : v.kind ≠ 0) : osetL S k v = match thereAt S k with | some i => S.set i ⟨k, v, false⟩ | none => (if cnt S + 8 < S.length - cnt S then live S else S) ++ [⟨k, v, false⟩] := by
  unfold osetL; rw [if_neg (by rw [h1]; decide), if_neg (by rw [h2]; decide), if_neg h0]; cases thereAt S k <;> rfl
/-! ### Dropping the removed slots -/
def dropAt (S : List Slt) (i : Nat) (k : Vl) : Option Nat := match lastAt (live (S.take i)) k with
  | some j => some j
  | none => (lastAt S k).bind fun j => if i ≤ j then some j else none
theorem drop_old {S : List Slt} (h : OInv S) {i : Nat} {s : Slt} (hs : S[i]? = some s) : lastAt (live (S.take i)) s.key = none := by
  refine lastAt_nokey fun t ht e => ?_
  have hg := live_gone ht
  obtain ⟨j, hj⟩ := List.mem_iff_getElem?.1 (List.mem_filter.1 ht).1
  rw [List.getElem?_take] at hj
  split at hj
  · rename_i hji
    obtain ⟨hj1, e2⟩ := List.getElem?_eq_some_iff.1 hj
    obtain ⟨hi1, e3⟩ := List.getElem?_eq_some_iff.1 hs
    have := List.pairwise_iff_getElem.1 h.uniq j i hj1 hi1 hji (by rw [e2, e3, e])
    rw [e2, hg] at this; cases this
  · cases hj
theorem drop_last {S : List Slt} {i : Nat} {s : Slt} (hs : S[i]? = some s) : ∃ j, lastAt S s.key = some j ∧ i ≤ j := by
  cases hl : lastAt S s.key with
  | none => exact absurd rfl (lastAt_none hl s (List.mem_of_getElem? hs))
  | some j =>
    refine ⟨j, rfl, Nat.le_of_not_lt fun hlt => ?_⟩
    obtain ⟨t, _, _, e3⟩ := lastAt_some hl
    exact e3 i s hlt hs rfl
theorem drop_other {S : List Slt} {i : Nat} {s : Slt} (hs : S[i]? = some s) {k : Vl} (hk : s.key ≠ k) : ((lastAt S k).bind fun j => if i ≤ j then some j else none) = (lastAt S k).bind fun j => if i + 1 ≤ j then some j else none := by
  cases hl : lastAt S k with
  | none => rfl
  | some j =>
    obtain ⟨t, e1, e2, _⟩ := lastAt_some hl
    have : j ≠ i := fun e => by subst e; rw [hs] at e1; cases e1; exact hk e2
    simp only [Option.bind_some]
    by_cases h : i ≤ j
    · rw [if_pos h, if_pos (by omega)]
    · rw [if_neg h, if_neg (by omega)]
def DropI (S : List Slt) (i : Nat) (m : List (Vl × Nat)) : Prop := ∀ k, aget m k = dropAt S i k
theorem drop0 {S : List Slt} {m : List (Vl × Nat)} (h : Agr m S) : DropI S 0 m := fun k => by
  rw [h]; unfold dropAt; simp [live, lastAt]
theorem drop_end {S : List Slt} {m : List (Vl × Nat)} {i : Nat} (h : DropI S i m) (hi : S.length ≤ i) : Agr m (live S) := fun k => by
  rw [h]; unfold dropAt
  rw [List.take_of_length_le hi]
  cases hl : lastAt (live S) k with
  | some j => rfl
  | none =>
    cases h2 : lastAt S k with
    | none => rfl
    | some j => have := lastAt_lt h2; simp; omega
/-- A removed slot: the map's entry of its key is j. -/
theorem drop_gone {S : List Slt} (ho : OInv S) {m : List (Vl × Nat)} {i : Nat} {s : Slt} (h : DropI S i m) (hs : S[i]? = some s) (hg : s.gone = true) : ∃ j, aget m s.key = some j ∧ (j ≠ i → DropI S (i + 1) m) ∧ (j = i → (m.map Prod.fst).Nodup → DropI S (i + 1) (adel m s.key)) := by
  have h1 := drop_old ho hs
  obtain ⟨j, h2, h3⟩ := drop_last hs
  have hv : live (S.take (i + 1)) = live (S.take i) := by rw [live_take hs, if_pos hg]
  have hj : aget m s.key = some j := by rw [h]; unfold dropAt; rw [h1, h2]; simp [h3]
  have hoth : ∀ k, s.key ≠ k → dropAt S i k = dropAt S (i + 1) k := fun k hk => by
    unfold dropAt; rw [hv, drop_other hs hk]
  refine ⟨j, hj, fun hne k => ?_, fun he hn k => ?_⟩
  · by_cases hk : s.key = k
    · subst hk
      rw [hj]; unfold dropAt; rw [hv, h1, h2]; simp; omega
    · rw [h, hoth k hk]
  · rw [aget_adel hn]
    by_cases hk : s.key = k
    · subst hk
      rw [if_pos rfl]; unfold dropAt; rw [hv, h1, h2]; simp; omega
    · rw [if_neg (fun e => hk e.symm), h, hoth k hk]
theorem drop_live {S : List Slt} (ho : OInv S) {m : List (Vl × Nat)} {i : Nat} {s : Slt} (h : DropI S i m) (hs : S[i]? = some s) (hg : s.gone = false) : DropI S (i + 1) (aset m s.key (live (S.take i)).length) := fun k => by
  have hv : live (S.take (i + 1)) = live (S.take i) ++ [s] := by rw [live_take hs, if_neg (by rw [hg]; decide)]
  rw [aget_aset]
  unfold dropAt
  rw [hv, lastAt_snoc]
  by_cases hk : s.key = k
  · subst hk; simp
  · rw [if_neg (fun e => hk e.symm), if_neg hk, h]
    unfold dropAt
    rw [drop_other hs hk]
/-! ### What follows -/
theorem head_live {S : List Slt} {a i : Nat} {s : Slt} (h : live ((S.drop a).take i) = []) (hs : (S.drop a)[i]? = some s) (hg : s.gone = false) : (live (S.drop a)).head? = some s := by
  have : S.drop a = (S.drop a).take i ++ s :: (S.drop a).drop (i + 1) := by
    obtain ⟨hi, e⟩ := List.getElem?_eq_some_iff.1 hs
    rw [← e, ← List.drop_eq_getElem_cons hi, List.take_append_drop]
  rw [this]
  unfold live at *
  rw [List.filter_append, h]; simp [hg]
theorem live_gone_step {S : List Slt} {i : Nat} {s : Slt} (h : live (S.take i) = []) (hs : S[i]? = some s) (hg : s.gone = true) : live (S.take (i + 1)) = [] := by rw [live_take hs, if_pos hg, h]
theorem head_none {S : List Slt} {i : Nat} (h : live (S.take i) = []) (hi : S.length ≤ i) : (live S).head? = none := by rw [List.take_of_length_le hi] at h; rw [h]; rfl
theorem onext_nil (S : List Slt) : onext S zVl = ((slotV (live S).head?).1, (slotV (live S).head?).2.1, (slotV (live S).head?).2.2, 0) := by unfold onext; rw [if_pos rfl]
theorem onext_none {S : List Slt} {k : Vl} (h : k ≠ zVl) (hl : lastAt S k = none) : onext S k = (zVl, zVl, false, 13) := by unfold onext; rw [if_neg h, hl]
theorem onext_some {S : List Slt} {k : Vl} {i : Nat} (h : k ≠ zVl) (hl : lastAt S k = some i) : onext S k = ((slotV (live (S.drop (i + 1))).head?).1, (slotV (live (S.drop (i + 1))).head?).2.1, (slotV (live (S.drop (i + 1))).head?).2.2, 0) := by unfold onext; rw [if_neg h, hl]
/-! ### The search for a slot -/
end Go.Proofs.Ytplkkhpokodbmaa
