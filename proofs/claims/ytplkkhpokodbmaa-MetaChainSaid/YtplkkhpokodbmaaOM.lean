/-
  Plain facts of ordered maps (layer 12) and tables (layer 13): what their calls answer. No program in sight.
-/
import Derived.Test.YtplkkhpokodbmaaVL
set_option linter.unusedSimpArgs false
set_option linter.unusedVariables false
namespace Go.Proofs.Ytplkkhpokodbmaa
/-- A slot of an ordered map. -/
structure Slt where
  key : Vl
  val : Vl
  gone : Bool
  deriving DecidableEq
def lastAt : List Slt → Vl → Option Nat
  | [], _ => none
  | s :: r, k => match lastAt r k with
    | some i => some (i + 1)
    | none => if s.key = k then some 0 else none
theorem lastAt_snoc (S : List Slt) (s : Slt) (k : Vl) : lastAt (S ++ [s]) k = if s.key = k then some S.length else lastAt S k := by
  induction S with
  | nil => simp [lastAt]
  | cons t r ih =>
    rw [List.cons_append, lastAt, ih]
    by_cases h : s.key = k
    · simp [h]
    · simp [h, lastAt]
theorem lastAt_none {S : List Slt} {k : Vl} (h : lastAt S k = none) : ∀ s ∈ S, s.key ≠ k := by
  induction S with
  | nil => intro s hs; cases hs
  | cons t r ih =>
    rw [lastAt] at h
    cases hr : lastAt r k with
    | some i => rw [hr] at h; cases h
    | none =>
      rw [hr] at h
      by_cases hk : t.key = k
      · simp [hk] at h
      · intro s hs
        rcases List.mem_cons.1 hs with rfl | hs
        · exact hk
        · exact ih hr s hs
theorem lastAt_some {S : List Slt} {k : Vl} {i : Nat} (h : lastAt S k = some i) : ∃ s, S[i]? = some s ∧ s.key = k ∧ ∀ j t, i < j → S[j]? = some t → t.key ≠ k := by
  induction S generalizing i with
  | nil => cases h
  | cons t r ih =>
    rw [lastAt] at h
    cases hr : lastAt r k with
    | some j =>
      rw [hr] at h
      obtain rfl : j + 1 = i := by injection h
      obtain ⟨s, h1, h2, h3⟩ := ih hr
      refine ⟨s, by simpa using h1, h2, fun j' t' hj ht => ?_⟩
      cases j' with
      | zero => omega
      | succ j' => exact h3 j' t' (by omega) (by simpa using ht)
    | none =>
      rw [hr] at h
      by_cases hk : t.key = k
      · simp [hk] at h
        subst h
        refine ⟨t, rfl, hk, fun j' t' hj ht => ?_⟩
        cases j' with
        | zero => omega
        | succ j' => exact lastAt_none hr t' (List.mem_of_getElem? (by simpa using ht))
      · simp [hk] at h
theorem lastAt_lt {S : List Slt} {k : Vl} {i : Nat} (h : lastAt S k = some i) : i < S.length := by
  obtain ⟨s, h1, _⟩ := lastAt_some h
  exact (List.getElem?_eq_some_iff.1 h1).1
theorem lastAt_is {S : List Slt} {k : Vl} {i : Nat} {s : Slt} (h1 : S[i]? = some s) (h2 : s.key = k) (h3 : ∀ j t, i < j → S[j]? = some t → t.key ≠ k) : lastAt S k = some i := by
  cases h : lastAt S k with
  | none => exact absurd h2 (lastAt_none h s (List.mem_of_getElem? h1))
  | some j =>
    obtain ⟨t, e1, e2, e3⟩ := lastAt_some h
    rcases Nat.lt_trichotomy i j with hij | rfl | hij
    · exact absurd e2 (h3 j t hij e1)
    · rfl
    · exact absurd h2 (e3 i s hij h1)
theorem lastAt_nokey {S : List Slt} {k : Vl} (h : ∀ s ∈ S, s.key ≠ k) : lastAt S k = none := by
  cases hl : lastAt S k with
  | none => rfl
  | some i =>
    obtain ⟨s, e1, e2, _⟩ := lastAt_some hl
    exact absurd e2 (h s (List.mem_of_getElem? e1))
/-- The key of the slot that is set stays: the places of the keys stay. -/
theorem lastAt_set (S : List Slt) (k k' : Vl) {i : Nat} {s : Slt} (h : lastAt S k = some i) (hs : s.key = k) : lastAt (S.set i s) k' = lastAt S k' := by
  obtain ⟨t, h1, h2, h3⟩ := lastAt_some h
  have hi := lastAt_lt h
  have hget : ∀ j, ((S.set i s)[j]?).map Slt.key = (S[j]?).map Slt.key := fun j => by
    by_cases e : i = j
    · subst e; rw [List.getElem?_set_self hi, h1]; simp [hs, h2]
    · rw [List.getElem?_set_ne e]
  cases hl : lastAt S k' with
  | none =>
    refine lastAt_nokey fun u hu => ?_
    obtain ⟨j, hj⟩ := List.mem_iff_getElem?.1 hu
    have := hget j
    rw [hj] at this
    cases hS : S[j]? with
    | none => rw [hS] at this; simp at this
    | some v =>
      rw [hS] at this
      simp at this
      rw [this]; exact lastAt_none hl v (List.mem_of_getElem? hS)
  | some j =>
    obtain ⟨u, e1, e2, e3⟩ := lastAt_some hl
    have := hget j
    rw [e1] at this
    cases hS : (S.set i s)[j]? with
    | none => rw [hS] at this; simp at this
    | some v =>
      rw [hS] at this
      simp at this
      refine lastAt_is hS (by rw [this, e2]) fun j' t' hj' ht' => ?_
      have h4 := hget j'
      rw [ht'] at h4
      cases hS' : S[j']? with
      | none => rw [hS'] at h4; simp at h4
      | some v' =>
        rw [hS'] at h4
        simp at h4
        rw [h4]; exact e3 j' v' hj' hS'
/-- Slots as the calls leave them. -/
structure OInv (S : List Slt) : Prop where
  uniq : S.Pairwise fun s t => s.key = t.key → s.gone = true
  zero : ∀ s ∈ S, s.gone = true → s.val = zVl
  keys : ∀ s ∈ S, validB s.key = true ∧ s.key.kind ≠ 0
  vals : ∀ s ∈ S, s.gone = false → validB s.val = true ∧ s.val.kind ≠ 0
theorem OInv.nil : OInv [] := ⟨.nil, fun _ h => (by cases h), fun _ h => (by cases h), fun _ h => (by cases h)⟩
def live (S : List Slt) : List Slt := S.filter fun s => !s.gone
def cnt (S : List Slt) : Nat := (live S).length
/-- The place of the slot of a key that has a value. -/
def thereAt (S : List Slt) (k : Vl) : Option Nat := (lastAt S k).bind fun i => (S[i]?).bind fun s => if s.gone then none else some i
def oget (S : List Slt) (k : Vl) : Vl := match (lastAt S k).bind (S[·]?) with
  | some s => s.val
  | none => zVl
def okKey (k : Vl) : Bool := !(decide (k.kind = 0)) && validB k
def osetE (k v : Vl) : Int := if okKey k = false then 13 else if validB v = false then 2 else 0
def osetL (S : List Slt) (k v : Vl) : List Slt :=
  if okKey k = false then S else if validB v = false then S else
  if v.kind = 0 then (match thereAt S k with | some i => S.set i ⟨k, zVl, true⟩ | none => S) else
  match thereAt S k with
  | some i => S.set i ⟨k, v, false⟩
  | none => (if cnt S + 8 < S.length - cnt S then live S else S) ++ [⟨k, v, false⟩]
def slotV (s : Option Slt) : Vl × Vl × Bool := match s with
  | some s => (s.key, s.val, true)
  | none => (zVl, zVl, false)
/-- What follows a key: key, value, whether there is one, error. -/
def onext (S : List Slt) (k : Vl) : Vl × Vl × Bool × Int :=
  if k = zVl then (let r := slotV (live S).head?; (r.1, r.2.1, r.2.2, 0)) else
  match lastAt S k with
  | none => (zVl, zVl, false, 13)
  | some i => (let r := slotV (live (S.drop (i + 1))).head?; (r.1, r.2.1, r.2.2, 0))
def okeys (S : List Slt) : List Vl := (live S).map Slt.key
theorem thereAt_some {S : List Slt} {k : Vl} {i : Nat} (h : thereAt S k = some i) : lastAt S k = some i ∧ ∃ s, S[i]? = some s ∧ s.key = k ∧ s.gone = false := by
  unfold thereAt at h
  cases hl : lastAt S k with
  | none => rw [hl] at h; cases h
  | some j =>
    rw [hl] at h
    obtain ⟨s, h1, h2, h3⟩ := lastAt_some hl
    simp only [Option.bind_some, h1] at h
    by_cases hg : s.gone = true
    · simp [hg] at h
    · simp [hg] at h
      subst h
      exact ⟨rfl, s, h1, h2, by simpa using hg⟩
theorem thereAt_is {S : List Slt} {k : Vl} {i : Nat} {s : Slt} (hl : lastAt S k = some i) (h1 : S[i]? = some s) : thereAt S k = if s.gone then none else some i := by
  unfold thereAt; rw [hl]; simp [h1]
theorem thereAt_none {S : List Slt} {k : Vl} (hl : lastAt S k = none) : thereAt S k = none := by unfold thereAt; rw [hl]; rfl
theorem OInv.last {S : List Slt} (h : OInv S) {i : Nat} {s : Slt} (h1 : S[i]? = some s) (hg : s.gone = false) : lastAt S s.key = some i :=
  lastAt_is h1 rfl fun j t hj ht e => by
    obtain ⟨hi, e1⟩ := List.getElem?_eq_some_iff.1 h1
    obtain ⟨hj', e2⟩ := List.getElem?_eq_some_iff.1 ht
    have := List.pairwise_iff_getElem.1 h.uniq i j hi hj' hj (by rw [e1, e2, e])
    rw [e1, hg] at this; cases this
theorem OInv.there {S : List Slt} (h : OInv S) {i : Nat} {s : Slt} (h1 : S[i]? = some s) (hg : s.gone = false) : thereAt S s.key = some i := by
  rw [thereAt_is (h.last h1 hg) h1, hg]; rfl
theorem oget_some {S : List Slt} {k : Vl} {i : Nat} {s : Slt} (h : lastAt S k = some i) (h1 : S[i]? = some s) : oget S k = s.val := by unfold oget; rw [h]; simp [h1]
theorem oget_none {S : List Slt} {k : Vl} (h : lastAt S k = none) : oget S k = zVl := by unfold oget; rw [h]; rfl
theorem oget_bad {S : List Slt} (h : OInv S) {k : Vl} (hk : okKey k = false) : oget S k = zVl := by
  refine oget_none (lastAt_nokey fun s hs e => ?_)
  obtain ⟨h1, h2⟩ := h.keys s hs
  subst e
  simp [okKey, h1, h2] at hk
theorem live_snoc (S : List Slt) (s : Slt) : live (S ++ [s]) = if s.gone then live S else live S ++ [s] := by
  unfold live; rw [List.filter_append]; cases hg : s.gone <;> simp [hg]
theorem live_take {S : List Slt} {i : Nat} {s : Slt} (h : S[i]? = some s) : live (S.take (i + 1)) = if s.gone then live (S.take i) else live (S.take i) ++ [s] := by
  rw [List.take_add_one, h]; exact live_snoc _ _
theorem live_set {S : List Slt} {i : Nat} {s t : Slt} (h : S[i]? = some t) : live (S.set i s) = live (S.take i) ++ live [s] ++ live (S.drop (i + 1)) ∧ live S = live (S.take i) ++ live [t] ++ live (S.drop (i + 1)) := by
  obtain ⟨hi, e⟩ := List.getElem?_eq_some_iff.1 h
  constructor
  · rw [List.set_eq_take_append_cons_drop, if_pos hi]
    show List.filter _ _ = List.filter _ _ ++ List.filter _ _ ++ List.filter _ _
    rw [List.append_assoc, ← List.filter_append, ← List.filter_append]; rfl
  · show List.filter _ _ = List.filter _ _ ++ List.filter _ _ ++ List.filter _ _
    rw [List.append_assoc, ← List.filter_append, ← List.filter_append]
    congr 1
    rw [← e]; simp
theorem cnt_le (S : List Slt) : cnt S ≤ S.length := List.length_filter_le _ _
theorem live_inv {S : List Slt} (h : OInv S) : OInv (live S) := by
  refine ⟨h.uniq.filter _, fun s hs => h.zero s (List.mem_filter.1 hs).1, fun s hs => h.keys s (List.mem_filter.1 hs).1, fun s hs => h.vals s (List.mem_filter.1 hs).1⟩
theorem live_gone {S : List Slt} {s : Slt} (h : s ∈ live S) : s.gone = false := by have := (List.mem_filter.1 h).2; simpa using this
theorem live_live (S : List Slt) : live (live S) = live S := by unfold live; rw [List.filter_filter]; simp
theorem okKey_iff {k : Vl} : okKey k = true ↔ validB k = true ∧ k.kind ≠ 0 := by simp [okKey, and_comm]
theorem there_none {S : List Slt} (h : OInv S) {k : Vl} (ht : thereAt S k = none) : ∀ s ∈ S, s.key = k → s.gone = true := fun s hs e => by
  cases hg : s.gone with
  | true => rfl
  | false =>
    obtain ⟨i, hi⟩ := List.mem_iff_getElem?.1 hs
    have := h.there hi hg
    rw [e, ht] at this; cases this
theorem OInv.set {S : List Slt} (h : OInv S) {k : Vl} {i : Nat} {s : Slt} (hl : lastAt S k = some i) (hk : s.key = k) (hz : s.gone = true → s.val = zVl) (hv : s.gone = false → validB s.val = true ∧ s.val.kind ≠ 0) : OInv (S.set i s) := by
  obtain ⟨t, h1, h2, h3⟩ := lastAt_some hl
  obtain ⟨hi, e⟩ := List.getElem?_eq_some_iff.1 h1
  refine ⟨?_, fun u hu => ?_, fun u hu => ?_, fun u hu => ?_⟩
  · rw [List.pairwise_iff_getElem]
    intro a b ha hb hab
    rw [List.length_set] at ha hb
    rw [List.getElem_set, List.getElem_set]
    have hp := List.pairwise_iff_getElem.1 h.uniq a b ha hb hab
    by_cases ea : i = a
    · subst ea
      rw [if_pos rfl, if_neg (by omega)]
      intro e'
      exact absurd (e'.symm.trans hk) (h3 b _ hab (List.getElem?_eq_getElem hb))
    · rw [if_neg ea]
      by_cases eb : i = b
      · subst eb
        rw [if_pos rfl]
        intro e'
        exact hp (by rw [e', hk, e, h2])
      · rw [if_neg eb]; exact hp
  · rcases List.mem_or_eq_of_mem_set hu with hu | rfl
    · exact h.zero u hu
    · exact hz
  · rcases List.mem_or_eq_of_mem_set hu with hu | rfl
    · exact h.keys u hu
    · rw [hk, ← h2]; exact h.keys t (List.mem_of_getElem? h1)
  · rcases List.mem_or_eq_of_mem_set hu with hu | rfl
    · exact h.vals u hu
    · exact hv
theorem OInv.snoc {S : List Slt} (h : OInv S) {k v : Vl} (hk : okKey k = true) (hv : validB v = true) (h0 : v.kind ≠ 0) (hn : ∀ s ∈ S, s.key = k → s.gone = true) : OInv (S ++ [⟨k, v, false⟩]) := by
  refine ⟨?_, fun u hu => ?_, fun u hu => ?_, fun u hu => ?_⟩
  · rw [List.pairwise_append]
    refine ⟨h.uniq, by simp, fun s hs t ht => ?_⟩
    rw [List.mem_singleton] at ht
    subst ht
    exact hn s hs
  all_goals
    rcases List.mem_append.1 hu with hu | hu
    · first | exact h.zero u hu | exact h.keys u hu | exact h.vals u hu
    · rw [List.mem_singleton] at hu
      subst hu
      first | (intro h; cases h; done) | exact okKey_iff.1 hk | exact fun _ => ⟨hv, h0⟩
theorem osetL_inv {S : List Slt} (h : OInv S) (k v : Vl) : OInv (osetL S k v) := by
  unfold osetL
  split
  · exact h
  · rename_i hk
    split
    · exact h
    · rename_i hv
      have hk' : okKey k = true := by simpa using hk
      have hv' : validB v = true := by simpa using hv
      split
      · cases ht : thereAt S k with
        | none => exact h
        | some i => exact h.set (thereAt_some ht).1 rfl (fun _ => rfl) (fun h => by cases h)
      · rename_i h0
        cases ht : thereAt S k with
        | some i => exact h.set (thereAt_some ht).1 rfl (fun h => by cases h) (fun _ => ⟨hv', h0⟩)
        | none =>
          show OInv ((if _ then _ else _) ++ _)
          split
          · exact (live_inv h).snoc hk' hv' h0 fun s hs e => there_none h ht s (List.mem_filter.1 hs).1 e
          · exact h.snoc hk' hv' h0 (there_none h ht)
theorem osetL_len (S : List Slt) (k v : Vl) : (osetL S k v).length ≤ S.length + 1 := by
  unfold osetL
  split
  · omega
  · split
    · omega
    · split
      · split <;> simp
      · split
        · simp
        · rw [List.length_append]
          split
          · have := cnt_le S; simp [cnt] at *; omega
          · simp
end Go.Proofs.Ytplkkhpokodbmaa
