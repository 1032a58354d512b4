/-
  Plain facts of ordered maps and tables: what is set is found, and other keys keep their values. No program in sight.
-/
import Derived.Test.YtplkkhpokodbmaaTM
set_option linter.unusedSimpArgs false
set_option linter.unusedVariables false
namespace Go.Proofs.Ytplkkhpokodbmaa
theorem zr_of {v : Vl} (h : validB v = true) (hk : v.kind = 0) : v = zVl := by
  unfold validB at h
  rw [if_pos hk] at h
  exact of_decide_eq_true h
section
variable {S : List Slt} {k v : Vl}
theorem live_mem {s : Slt} : s ∈ live S ↔ s ∈ S ∧ s.gone = false := by unfold live; rw [List.mem_filter]; simp
theorem oget_mem (h : OInv S) {s : Slt} (hs : s ∈ live S) : oget S s.key = s.val := by
  obtain ⟨h1, hg⟩ := live_mem.1 hs
  obtain ⟨j, hj⟩ := List.mem_iff_getElem?.1 h1
  exact oget_some (h.last hj hg) hj
theorem oget_not (h : OInv S) (hn : ∀ s ∈ live S, s.key ≠ k) : oget S k = zVl := by
  cases hl : lastAt S k with
  | none => exact oget_none hl
  | some i =>
    obtain ⟨s, h1, h2, _⟩ := lastAt_some hl
    rw [oget_some hl h1]
    have hm := List.mem_of_getElem? h1
    cases hg : s.gone with
    | true => exact h.zero s hm hg
    | false => exact absurd h2 (hn s (live_mem.2 ⟨hm, hg⟩))
/-- What lives after a key was set. -/
theorem live_oset (h : OInv S) (hk : okKey k = true) (hv : validB v = true) (s : Slt) : s ∈ live (osetL S k v) ↔ (s.key ≠ k ∧ s ∈ live S) ∨ (v.kind ≠ 0 ∧ s = ⟨k, v, false⟩) := by
  have hset : ∀ {i : Nat} {t u : Slt}, S[i]? = some t → t.gone = false → t.key = k → ∀ s, s ∈ S.set i u ∧ s.gone = false ↔ (s.key ≠ k ∧ s ∈ live S) ∨ (s = u ∧ u.gone = false) := by
    intro i t u hi hg htk s
    constructor
    · rintro ⟨h1, h2⟩
      obtain ⟨j, hj⟩ := List.mem_iff_getElem?.1 h1
      by_cases e : i = j
      · subst e
        rw [List.getElem?_set_self (List.getElem?_eq_some_iff.1 hi).1] at hj
        injection hj with e; subst e
        exact .inr ⟨rfl, h2⟩
      · rw [List.getElem?_set_ne e] at hj
        refine .inl ⟨fun hk' => ?_, live_mem.2 ⟨List.mem_of_getElem? hj, h2⟩⟩
        have a := h.last hj h2
        have b := h.last hi hg
        rw [hk'] at a; rw [htk] at b; rw [a] at b; injection b with b; exact e b.symm
    · rintro (⟨h1, h2⟩ | ⟨rfl, h2⟩)
      · obtain ⟨h3, h4⟩ := live_mem.1 h2
        obtain ⟨j, hj⟩ := List.mem_iff_getElem?.1 h3
        refine ⟨?_, h4⟩
        have e : i ≠ j := fun e => by subst e; rw [hi] at hj; injection hj with e; subst e; exact h1 htk
        exact List.mem_of_getElem? (i := j) (by rw [List.getElem?_set_ne e]; exact hj)
      · exact ⟨List.mem_of_getElem? (i := i) (by rw [List.getElem?_set_self (List.getElem?_eq_some_iff.1 hi).1]), h2⟩
  have hno : thereAt S k = none → ∀ s ∈ live S, s.key ≠ k := fun ht s hs e => by
    obtain ⟨h1, h2⟩ := live_mem.1 hs
    rw [there_none h ht s h1 e] at h2; cases h2
  rw [live_mem]
  unfold osetL
  rw [if_neg (by rw [hk]; decide), if_neg (by rw [hv]; decide)]
  split
  · rename_i h0
    cases ht : thereAt S k with
    | none =>
      simp only
      rw [← live_mem]
      exact ⟨fun hs => .inl ⟨hno ht s hs, hs⟩, fun hs => by rcases hs with hs | hs; exact hs.2; exact absurd h0 hs.1⟩
    | some i =>
      obtain ⟨_, t, h1, h2, h3⟩ := thereAt_some ht
      simp only
      rw [hset h1 h3 h2]
      constructor
      · rintro (hs | ⟨rfl, hs⟩)
        · exact .inl hs
        · cases hs
      · rintro (hs | hs)
        · exact .inl hs
        · exact absurd h0 hs.1
  · rename_i h0
    cases ht : thereAt S k with
    | some i =>
      obtain ⟨_, t, h1, h2, h3⟩ := thereAt_some ht
      simp only
      rw [hset h1 h3 h2]
      constructor
      · rintro (hs | ⟨rfl, hs⟩)
        · exact .inl hs
        · exact .inr ⟨h0, rfl⟩
      · rintro (hs | hs)
        · exact .inl hs
        · exact .inr ⟨hs.2, rfl⟩
    | none =>
      simp only
      rw [List.mem_append, List.mem_singleton]
      have hlv : ∀ s, s.gone = false → (s ∈ (if cnt S + 8 < S.length - cnt S then live S else S) ↔ s ∈ live S) := fun s hg => by
        split
        · exact Iff.rfl
        · rw [live_mem]; simp [hg]
      constructor
      · rintro ⟨h1 | h1, h2⟩
        · have := (hlv s h2).1 h1
          exact .inl ⟨hno ht s this, this⟩
        · exact .inr ⟨h0, h1⟩
      · rintro (⟨h1, h2⟩ | ⟨h1, rfl⟩)
        · exact ⟨.inl ((hlv s (live_mem.1 h2).2).2 h2), (live_mem.1 h2).2⟩
        · exact ⟨.inr rfl, rfl⟩
theorem oget_oset (h : OInv S) (hk : okKey k = true) (hv : validB v = true) (k' : Vl) : oget (osetL S k v) k' = if k' = k then v else oget S k' := by
  have hi := osetL_inv h k v
  by_cases e : k' = k
  · subst e
    rw [if_pos rfl]
    by_cases h0 : v.kind = 0
    · rw [oget_not hi fun s hs => ?_]
      · exact (zr_of hv h0).symm
      · rcases (live_oset h hk hv s).1 hs with h1 | h1
        · exact h1.1
        · exact absurd h0 h1.1
    · exact oget_mem hi ((live_oset h hk hv ⟨k', v, false⟩).2 (.inr ⟨h0, rfl⟩))
  · rw [if_neg e]
    by_cases hx : ∃ s ∈ live S, s.key = k'
    · obtain ⟨s, hs, rfl⟩ := hx
      rw [oget_mem h hs, oget_mem hi ((live_oset h hk hv s).2 (.inl ⟨e, hs⟩))]
    · have hn : ∀ s ∈ live S, s.key ≠ k' := fun s hs he => hx ⟨s, hs, he⟩
      rw [oget_not h hn, oget_not hi fun s hs => ?_]
      rcases (live_oset h hk hv s).1 hs with h1 | h1
      · exact hn s h1.2
      · rw [h1.2]; exact fun he => e he.symm
end
/-- No key that lives in the map part is of the list. -/
def TW (T : Tb) : Prop := ∀ s ∈ live T.rest, inB (whole s.key) T.list.length = false
theorem TW.nil : TW ⟨[], []⟩ := fun _ h => by cases h
theorem shr_getN : ∀ (n : Nat) {L : List Vl}, L.length = n → (∀ x ∈ L, validB x = true) → ∀ i : Nat, ((shr L)[i]?).getD zVl = (L[i]?).getD zVl
  | 0, L, hn, _, i => by rw [List.length_eq_zero_iff.1 hn]; rfl
  | n + 1, L, hn, hL, i => by
    rcases List.eq_nil_or_concat L with rfl | ⟨r, x, rfl⟩
    · rfl
    · rw [List.concat_eq_append] at *
      rw [shr_snoc]
      split
      · rename_i h0
        rw [shr_getN n (by simp at hn; omega) (fun y hy => hL y (List.mem_append_left _ hy))]
        by_cases hi : i < r.length
        · rw [List.getElem?_append_left hi]
        · rw [List.getElem?_append_right (by omega), List.getElem?_eq_none (by omega)]
          by_cases h1 : i - r.length = 0
          · rw [h1]; simp [zr_of (hL x (by simp)) h0]
          · rw [List.getElem?_eq_none (by simp; omega)]
      · rfl
theorem shr_get {L : List Vl} (hL : ∀ x ∈ L, validB x = true) (i : Nat) : ((shr L)[i]?).getD zVl = (L[i]?).getD zVl := shr_getN _ rfl hL i
/-- What the loop that adds has put behind. -/
theorem grow_get (S : List Slt) : ∀ (f : Nat) (L : List Vl) (v : Vl) (i : Nat), i < (grow S f L v).length → (grow S f L v)[i]? = if i < L.length then L[i]? else if i = L.length then some v else some (oget S (ofI ((i : Int) + 1)))
  | 0, L, v, i, hi => by
    rw [grow] at hi ⊢
    rw [if_pos hi]
  | f + 1, L, v, i, hi => by
    rw [grow] at hi ⊢
    split at hi
    · rename_i h0
      rw [if_pos h0, if_pos hi]
    · rename_i h0
      rw [if_neg h0, grow_get S f _ _ i hi]
      have e : (L ++ [v]).length = L.length + 1 := by simp
      rw [e]
      by_cases h1 : i < L.length
      · rw [if_pos (by omega), if_pos h1, List.getElem?_append_left h1]
      · rw [if_neg h1]
        by_cases h2 : i = L.length
        · rw [if_pos (by omega), if_pos h2, h2]; simp
        · rw [if_neg (by omega), if_neg h2]
          by_cases h3 : i = L.length + 1
          · rw [if_pos h3, h3, show (((L.length + 1 : Nat) : Int) + 1) = (L.length : Int) + 2 by omega]
          · rw [if_neg h3]
theorem grow_lt (S : List Slt) (f : Nat) {L : List Vl} {v : Vl} (h0 : v.kind ≠ 0) : L.length < (grow S (f + 1) L v).length := by
  rw [grow, if_neg h0]
  have := grow_le S f (L ++ [v]) (oget S (ofI ((L.length : Int) + 2)))
  rw [List.length_append, List.length_singleton] at this
  omega
theorem stale_no {S : List Slt} {n m : Nat} (h : staleB S n m = false) {s : Slt} (hs : s ∈ S) (h1 : n < whole s.key) : ¬ whole s.key ≤ m := fun h2 => by
  unfold staleB at h
  rw [List.any_eq_false] at h
  obtain ⟨e, h3⟩ := whole_key (k := s.key) (n := whole s.key) rfl (by omega)
  refine h (whole s.key).toNat (List.mem_range'_1.2 ⟨by omega, by omega⟩) ?_
  unfold hasK
  rw [show (((whole s.key).toNat : Nat) : Int) = whole s.key by omega, ← e]
  cases hl : lastAt S s.key with
  | some j => simp
  | none => exact absurd rfl (lastAt_none hl s hs)
section
variable {T : Tb} {k v : Vl}
theorem tadd_tw (h : TInv T) (hw : TW T) (v : Vl) : TW (tadd T v) := by
  intro s hs
  have hle := grow_le T.rest (T.rest.length + 2) T.list v
  show inB _ (grow T.rest (T.rest.length + 2) T.list v).length = false
  have hs' : s ∈ live (if staleB T.rest T.list.length (grow T.rest (T.rest.length + 2) T.list v).length = true then purge T.rest (grow T.rest (T.rest.length + 2) T.list v).length else T.rest) := hs
  split at hs'
  · have h1 := (live_mem.1 hs').1
    unfold purge at h1
    have := (List.mem_filter.1 h1).2
    simpa using this
  · rename_i hst
    have h1 := hw s hs'
    refine inB_false fun hb => ?_
    have h2 : ¬ (1 ≤ whole s.key ∧ whole s.key ≤ (T.list.length : Int)) := fun hc => by rw [inB_iff.2 hc] at h1; cases h1
    exact stale_no (by simpa using hst) (live_mem.1 hs').1 (by omega) hb.2
theorem tset_tw (h : TInv T) (hw : TW T) (k v : Vl) : TW (tset T k v) := by
  unfold tset
  split
  · exact hw
  rename_i hk
  split
  · exact hw
  rename_i hv
  split
  · intro s hs
    have h1 := hw s hs
    have h2 := shr_len (T.list.set (whole k - 1).toNat v)
    rw [List.length_set] at h2
    refine inB_false fun hb => ?_
    have hb2 : whole s.key ≤ ((shr (T.list.set (whole k - 1).toNat v)).length : Int) := hb.2
    rw [inB_iff.2 ⟨hb.1, by omega⟩] at h1; cases h1
  rename_i hb
  split
  · exact tadd_tw h hw v
  · intro s hs
    rcases (live_oset h.rest (by simpa using hk) (by simpa using hv) s).1 hs with h1 | h1
    · exact hw s h1.2
    · rw [h1.2]; simpa using hb
theorem tadd_get (h : TInv T) (hw : TW T) (hk : okKey k = true) (hv : validB v = true) (h1 : whole k = (T.list.length : Int) + 1) (h0 : v.kind ≠ 0) (k' : Vl) : tget (tadd T v) k' = if k' = k then v else tget T k' := by
  obtain ⟨hk1, hk2⟩ := whole_key h1 (by omega)
  have hlt : T.list.length < (grow T.rest (T.rest.length + 2) T.list v).length := grow_lt T.rest (T.rest.length + 1) h0
  have hg := grow_get T.rest (T.rest.length + 2) T.list v
  have hkv := (okKey_iff.1 hk).1
  by_cases hv' : validB k' = false
  · rw [tget_bad hv', tget_bad hv', if_neg fun e => by rw [e, hkv] at hv'; cases hv']
  have hvv : validB k' = true := by simpa using hv'
  unfold tget
  rw [if_neg hv', if_neg hv']
  show (if inB (whole k') (grow T.rest (T.rest.length + 2) T.list v).length = true then ((grow T.rest (T.rest.length + 2) T.list v)[(whole k' - 1).toNat]?).getD zVl else oget (tadd T v).rest k') = _
  by_cases hin : inB (whole k') (grow T.rest (T.rest.length + 2) T.list v).length = true
  · rw [if_pos hin]
    obtain ⟨a, b⟩ := inB_iff.1 hin
    rw [hg _ (by omega)]
    obtain ⟨ek, _⟩ := whole_key (k := k') rfl a
    by_cases h2 : whole k' ≤ (T.list.length : Int)
    · rw [if_pos (by omega), if_neg fun e => by rw [e] at h2; omega, if_pos (inB_iff.2 ⟨a, h2⟩)]
    · rw [if_neg (by omega)]
      by_cases h3 : whole k' = (T.list.length : Int) + 1
      · rw [if_pos (by omega), if_pos (by rw [ek, h3, hk1])]; rfl
      · rw [if_neg (by omega), if_neg fun e => h3 (by rw [e, h1]), if_neg fun e => h2 (inB_iff.1 e).2]
        rw [show ((((whole k' - 1).toNat : Nat) : Int) + 1) = whole k' by omega, ← ek]; rfl
  · rw [if_neg hin]
    have hn : ¬ (1 ≤ whole k' ∧ whole k' ≤ ((grow T.rest (T.rest.length + 2) T.list v).length : Int)) := fun hc => hin (inB_iff.2 hc)
    rw [if_neg fun e => hn (by rw [e, h1]; omega), if_neg fun e => hn (by have := inB_iff.1 e; omega)]
    show oget (if staleB T.rest T.list.length (grow T.rest (T.rest.length + 2) T.list v).length = true then purge T.rest (grow T.rest (T.rest.length + 2) T.list v).length else T.rest) k' = _
    split
    · have hp := purge_inv h.rest (grow T.rest (T.rest.length + 2) T.list v).length
      by_cases hx : ∃ s ∈ live T.rest, s.key = k'
      · obtain ⟨s, hs, e⟩ := hx
        have hs2 : s ∈ live (purge T.rest (grow T.rest (T.rest.length + 2) T.list v).length) := by
          rw [live_mem]; unfold purge; rw [List.mem_filter]
          refine ⟨⟨hs, ?_⟩, (live_mem.1 hs).2⟩
          rw [e, inB_false hn]; rfl
        rw [← e, oget_mem h.rest hs, oget_mem hp hs2]
      · have hno : ∀ s ∈ live T.rest, s.key ≠ k' := fun s hs he => hx ⟨s, hs, he⟩
        rw [oget_not h.rest hno, oget_not hp fun s hs => ?_]
        rw [live_mem] at hs; unfold purge at hs
        exact hno s (List.mem_filter.1 hs.1).1
    · rfl
/-- What is set is found; other keys keep their values. -/
theorem tget_tset (h : TInv T) (hw : TW T) (hk : okKey k = true) (hv : validB v = true) (k' : Vl) : tget (tset T k v) k' = if k' = k then v else tget T k' := by
  have hkv := (okKey_iff.1 hk).1
  by_cases hin : 1 ≤ whole k ∧ whole k ≤ (T.list.length : Int)
  · rw [tset_in hk hv hin.1 hin.2]
    by_cases hv' : validB k' = false
    · rw [tget_bad hv', tget_bad hv', if_neg fun e => by rw [e, hkv] at hv'; cases hv']
    obtain ⟨ek, _⟩ := whole_key (k := k) rfl hin.1
    unfold tget
    rw [if_neg hv', if_neg hv']
    have hall : ∀ x ∈ T.list.set (whole k - 1).toNat v, validB x = true := fun x hx => by
      rcases List.mem_or_eq_of_mem_set hx with hx | rfl
      · exact h.list x hx
      · exact hv
    have hsl := shr_len (T.list.set (whole k - 1).toNat v)
    rw [List.length_set] at hsl
    by_cases hb : 1 ≤ whole k' ∧ whole k' ≤ (T.list.length : Int)
    · obtain ⟨ek', _⟩ := whole_key (k := k') rfl hb.1
      have e1 : (if inB (whole k') (shr (T.list.set (whole k - 1).toNat v)).length = true then ((shr (T.list.set (whole k - 1).toNat v))[(whole k' - 1).toNat]?).getD zVl else oget T.rest k') = ((T.list.set (whole k - 1).toNat v)[(whole k' - 1).toNat]?).getD zVl := by
        rw [← shr_get hall]
        split
        · rfl
        · rename_i hn
          rw [List.getElem?_eq_none (by apply Decidable.byContradiction; intro hc; exact hn (inB_iff.2 ⟨hb.1, by omega⟩))]
          refine oget_not h.rest fun s hs e => ?_
          have := hw s hs
          rw [e, inB_iff.2 hb] at this; cases this
      show (if _ then _ else oget T.rest k') = _
      rw [e1]
      by_cases e : k' = k
      · subst e
        rw [if_pos rfl, List.getElem?_set_self (by omega)]; rfl
      · rw [if_neg e, if_pos (inB_iff.2 hb)]
        have hne : (whole k - 1).toNat ≠ (whole k' - 1).toNat := fun hc => e (by rw [ek', ek]; congr 1; omega)
        rw [List.getElem?_set_ne hne]
    · have hb2 : ¬ (1 ≤ whole k' ∧ whole k' ≤ ((shr (T.list.set (whole k - 1).toNat v)).length : Int)) := fun hc => hb ⟨hc.1, by omega⟩
      show (if inB (whole k') (shr (T.list.set (whole k - 1).toNat v)).length = true then _ else oget T.rest k') = _
      rw [if_neg (by rw [inB_false hb2]; decide), if_neg fun e => hb (by rw [e]; exact hin), if_neg (by rw [inB_false hb]; decide)]
  · by_cases hadd : whole k = (T.list.length : Int) + 1 ∧ v.kind ≠ 0
    · rw [tset_add hk hv hadd.1 hadd.2]
      exact tadd_get h hw hk hv hadd.1 hadd.2 k'
    · rw [tset_out hk hv hin hadd]
      by_cases hv' : validB k' = false
      · rw [tget_bad hv', tget_bad hv', if_neg fun e => by rw [e, hkv] at hv'; cases hv']
      unfold tget
      rw [if_neg hv', if_neg hv']
      show (if inB (whole k') T.list.length = true then _ else oget (osetL T.rest k v) k') = _
      rw [oget_oset h.rest hk hv]
      by_cases hb : inB (whole k') T.list.length = true
      · rw [if_pos hb, if_pos hb, if_neg fun e => hin (by rw [← e]; exact inB_iff.1 hb)]
      · rw [if_neg hb, if_neg hb]
end
end Go.Proofs.Ytplkkhpokodbmaa
