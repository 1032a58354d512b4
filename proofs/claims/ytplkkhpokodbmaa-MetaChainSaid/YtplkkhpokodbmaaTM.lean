/-
  Plain facts of tables (layer 13): what their calls answer. No program in sight.
-/
import Derived.Test.YtplkkhpokodbmaaOM
set_option linter.unusedSimpArgs false
set_option linter.unusedVariables false
namespace Go.Proofs.Ytplkkhpokodbmaa
structure Tb where
  list : List Vl
  rest : List Slt
  deriving DecidableEq
/-- The integer of an integer key, 0 for other values. -/
def whole (k : Vl) : Int := if k.kind = 2 ∧ k.q = 1 ∧ validB k = true then k.p else 0
def ofI (n : Int) : Vl := if n < -2147483647 ∨ 2147483647 < n then zVl else ⟨2, n, 1, ByteArray.empty, 0⟩
def inB (n : Int) (len : Nat) : Bool := decide (1 ≤ n) && decide (n ≤ (len : Int))
def tget (T : Tb) (k : Vl) : Vl := if validB k = false then zVl else if inB (whole k) T.list.length = true then (T.list[(whole k - 1).toNat]?).getD zVl else oget T.rest k
def shr (L : List Vl) : List Vl := (L.reverse.dropWhile fun v => decide (v.kind = 0)).reverse
def grow (S : List Slt) : Nat → List Vl → Vl → List Vl
  | 0, L, _ => L
  | f + 1, L, v => if v.kind = 0 then L else grow S f (L ++ [v]) (oget S (ofI ((L.length : Int) + 2)))
/-- There is a slot of this key. -/
def hasK (S : List Slt) (k : Vl) : Bool := decide (k = zVl) || (lastAt S k).isSome
def staleB (S : List Slt) (n m : Nat) : Bool := (List.range' (n + 1) (m - n)).any fun i => hasK S (ofI (i : Int))
def purge (S : List Slt) (m : Nat) : List Slt := (live S).filter fun s => !inB (whole s.key) m
def tadd (T : Tb) (v : Vl) : Tb :=
  let L := grow T.rest (T.rest.length + 2) T.list v
  ⟨L, if staleB T.rest T.list.length L.length then purge T.rest L.length else T.rest⟩
def tsetE (k v : Vl) : Int := if okKey k = false then 13 else if validB v = false then 2 else 0
def tset (T : Tb) (k v : Vl) : Tb :=
  if okKey k = false then T else if validB v = false then T else
  if inB (whole k) T.list.length = true then { T with list := shr (T.list.set ((whole k - 1).toNat) v) } else
  if whole k = (T.list.length : Int) + 1 ∧ v.kind ≠ 0 then tadd T v else { T with rest := osetL T.rest k v }
structure TInv (T : Tb) : Prop where
  rest : OInv T.rest
  list : ∀ v ∈ T.list, validB v = true
  last : ∀ v, T.list.getLast? = some v → v.kind ≠ 0
theorem TInv.nil : TInv ⟨[], []⟩ := ⟨.nil, fun _ h => (by cases h), fun _ h => (by cases h)⟩
theorem shr_snoc (L : List Vl) (v : Vl) : shr (L ++ [v]) = if v.kind = 0 then shr L else L ++ [v] := by
  unfold shr; rw [List.reverse_append, List.reverse_singleton, List.singleton_append, List.dropWhile_cons]
  by_cases h : v.kind = 0 <;> simp [h]
theorem shr_id {L : List Vl} (h : ∀ v, L.getLast? = some v → v.kind ≠ 0) : shr L = L := by
  rcases List.eq_nil_or_concat L with rfl | ⟨r, v, rfl⟩
  · rfl
  · rw [List.concat_eq_append] at *
    rw [shr_snoc, if_neg (h v (by simp))]
theorem shr_last (L : List Vl) : ∀ v, (shr L).getLast? = some v → v.kind ≠ 0 := by
  intro v hv
  unfold shr at hv
  rw [List.getLast?_reverse] at hv
  have := List.head?_dropWhile_not (fun v : Vl => decide (v.kind = 0)) L.reverse
  rw [hv] at this
  simpa using this
/-- The list without the values nil at its end: n of them are left. -/
theorem shr_step {L : List Vl} {n : Nat} {v : Vl} (hn : n < L.length) (hv : L[n]? = some v) (h0 : v.kind = 0) : shr (L.take (n + 1)) = shr (L.take n) := by
  rw [List.take_add_one, hv]; show shr (L.take n ++ [v]) = _; rw [shr_snoc, if_pos h0]
theorem shr_stop {L : List Vl} {n : Nat} {v : Vl} (hv : L[n]? = some v) (h0 : v.kind ≠ 0) : shr (L.take (n + 1)) = L.take (n + 1) := by
  rw [List.take_add_one, hv]; show shr (L.take n ++ [v]) = L.take n ++ [v]; rw [shr_snoc, if_neg h0]
theorem shr_len (L : List Vl) : (shr L).length ≤ L.length := by
  unfold shr; rw [List.length_reverse, ← List.length_reverse (as := L)]
  exact (List.dropWhile_suffix _).length_le
theorem shr_mem {L : List Vl} {v : Vl} (h : v ∈ shr L) : v ∈ L := by
  unfold shr at h
  rw [List.mem_reverse] at h
  have := (List.dropWhile_suffix _).subset h
  simpa using this
theorem whole_ofI {n : Int} (h1 : 1 ≤ n) (h2 : n ≤ 2147483647) : whole (ofI n) = n ∧ okKey (ofI n) = true ∧ ofI n ≠ zVl := by
  have e : ofI n = ⟨2, n, 1, ByteArray.empty, 0⟩ := by unfold ofI; rw [if_neg (by omega)]
  have hv : validB ⟨2, n, 1, ByteArray.empty, 0⟩ = true := by
    have : Int.gcd n 1 = 1 := by simp
    simp [validB, validN, this]; omega
  rw [e]
  refine ⟨?_, ?_, ?_⟩
  · unfold whole; rw [if_pos ⟨rfl, rfl, hv⟩]
  · rw [okKey_iff]; exact ⟨hv, by show (2 : Int) ≠ 0; decide⟩
  · intro h; injection h with h; cases h
theorem ofI_far {n : Int} (h : 2147483647 < n) : ofI n = zVl := by unfold ofI; rw [if_pos (.inr h)]
theorem whole_key {k : Vl} {n : Int} (h : whole k = n) (hn : 1 ≤ n) : k = ofI n ∧ n ≤ 2147483647 := by
  unfold whole at h
  split at h
  · rename_i hc
    obtain ⟨h1, h2, h3⟩ := hc
    have h4 : k = ⟨2, k.p, k.q, ByteArray.empty, 0⟩ ∧ validN k.p k.q = true := by
      unfold validB at h3
      rw [h1, if_neg (by decide), if_neg (by decide), if_pos rfl, Bool.and_eq_true, decide_eq_true_eq] at h3
      exact h3
    have h5 : n ≤ 2147483647 := by
      have := h4.2; simp [validN] at this; omega
    refine ⟨?_, h5⟩
    rw [h4.1, h2]; unfold ofI; rw [if_neg (by omega), h]
  · omega
theorem inB_iff {n : Int} {m : Nat} : inB n m = true ↔ 1 ≤ n ∧ n ≤ (m : Int) := by simp [inB]
/-! ### The run of values that follow -/
/-- Live slots of integer keys behind n. -/
def more (S : List Slt) (n : Nat) : Nat := (live S).countP fun s => decide ((n : Int) < whole s.key)
theorem more_le (S : List Slt) (n : Nat) : more S n ≤ S.length := Nat.le_trans List.countP_le_length (cnt_le S)
theorem oget_live {S : List Slt} (h : OInv S) {k : Vl} (h0 : (oget S k).kind ≠ 0) : ∃ s ∈ live S, s.key = k ∧ s.val = oget S k := by
  cases hl : lastAt S k with
  | none => rw [oget_none hl] at h0; exact absurd rfl h0
  | some i =>
    obtain ⟨s, h1, h2, _⟩ := lastAt_some hl
    rw [oget_some hl h1] at h0 ⊢
    refine ⟨s, List.mem_filter.2 ⟨List.mem_of_getElem? h1, ?_⟩, h2, rfl⟩
    cases hg : s.gone with
    | false => rfl
    | true => rw [h.zero s (List.mem_of_getElem? h1) hg] at h0; exact absurd rfl h0
theorem countP_lt {α : Type} {p q : α → Bool} {L : List α} (hpq : ∀ x ∈ L, p x = true → q x = true) {y : α} (hy : y ∈ L) (h1 : p y = false) (h2 : q y = true) : L.countP p < L.countP q := by
  induction L with
  | nil => cases hy
  | cons a r ih =>
    rw [List.countP_cons, List.countP_cons]
    have hm := List.countP_mono_left (l := r) (p := p) (q := q) fun x hx h => hpq x (List.mem_cons_of_mem _ hx) h
    rcases List.mem_cons.1 hy with rfl | hy
    · rw [h1, h2]; simp; omega
    · have := ih (fun x hx => hpq x (List.mem_cons_of_mem _ hx)) hy
      have := hpq a List.mem_cons_self
      cases hp : p a <;> simp_all <;> (try split) <;> omega
def mu (S : List Slt) (n : Nat) (v : Vl) : Nat := if v.kind = 0 then 0 else more S (n + 1) + 1
theorem mu_lt {S : List Slt} (h : OInv S) {n : Nat} {v : Vl} (h0 : v.kind ≠ 0) : mu S (n + 1) (oget S (ofI ((n : Int) + 2))) < mu S n v := by
  unfold mu
  rw [if_neg h0]
  split
  · omega
  · rename_i h1
    obtain ⟨s, h2, h3, _⟩ := oget_live h h1
    have hle : (n : Int) + 2 ≤ 2147483647 := Int.not_lt.1 fun hf => by rw [ofI_far hf] at h1; exact h1 (by rw [oget_bad h (by decide)]; rfl)
    have hw : whole s.key = (n : Int) + 2 := by rw [h3]; exact (whole_ofI (by omega) hle).1
    have : more S (n + 1 + 1) < more S (n + 1) := countP_lt (fun x _ hx => by simp at hx ⊢; omega) h2 (by simp [hw]; omega) (by simp [hw])
    omega
theorem grow_len {S : List Slt} (h : OInv S) : ∀ (f : Nat) (L : List Vl) (v : Vl), (grow S f L v).length ≤ L.length + mu S L.length v
  | 0, L, v => by simp [grow]
  | f + 1, L, v => by
    unfold grow
    split
    · omega
    · rename_i h0
      have := grow_len h f (L ++ [v]) (oget S (ofI ((L.length : Int) + 2)))
      have h2 := mu_lt h (n := L.length) h0
      rw [List.length_append] at this
      simp only [List.length_singleton] at this
      omega
theorem grow_le (S : List Slt) : ∀ (f : Nat) (L : List Vl) (v : Vl), L.length ≤ (grow S f L v).length
  | 0, L, v => by simp [grow]
  | f + 1, L, v => by
    unfold grow
    split
    · omega
    · have := grow_le S f (L ++ [v]) (oget S (ofI ((L.length : Int) + 2)))
      rw [List.length_append] at this; omega
theorem oget_valid {S : List Slt} (h : OInv S) (k : Vl) : validB (oget S k) = true := by
  by_cases h0 : (oget S k).kind = 0
  · cases hl : lastAt S k with
    | none => rw [oget_none hl]; decide
    | some i =>
      obtain ⟨s, h1, h2, _⟩ := lastAt_some hl
      rw [oget_some hl h1]
      cases hg : s.gone with
      | true => rw [h.zero s (List.mem_of_getElem? h1) hg]; decide
      | false => exact (h.vals s (List.mem_of_getElem? h1) hg).1
  · obtain ⟨s, h1, h2, h3⟩ := oget_live h h0
    rw [← h3]; exact (h.vals s (List.mem_filter.1 h1).1 (live_gone h1)).1
theorem grow_inv {S : List Slt} (h : OInv S) : ∀ (f : Nat) (L : List Vl) (v : Vl), (∀ x ∈ L, validB x = true) → (∀ x, L.getLast? = some x → x.kind ≠ 0) → validB v = true → (∀ x ∈ grow S f L v, validB x = true) ∧ ∀ x, (grow S f L v).getLast? = some x → x.kind ≠ 0
  | 0, L, v, h1, h2, hv => ⟨h1, h2⟩
  | f + 1, L, v, h1, h2, hv => by
    unfold grow
    split
    · exact ⟨h1, h2⟩
    · rename_i h0
      refine grow_inv h f _ _ (fun x hx => ?_) (fun x hx => ?_) (oget_valid h _)
      · rcases List.mem_append.1 hx with hx | hx
        · exact h1 x hx
        · rw [List.mem_singleton] at hx; rw [hx]; exact hv
      · simp at hx; rw [← hx]; exact h0
theorem purge_inv {S : List Slt} (h : OInv S) (m : Nat) : OInv (purge S m) := by
  have hl := live_inv h
  refine ⟨hl.uniq.filter _, fun s hs => hl.zero s (List.mem_filter.1 hs).1, fun s hs => hl.keys s (List.mem_filter.1 hs).1, fun s hs => hl.vals s (List.mem_filter.1 hs).1⟩
theorem purge_len (S : List Slt) (m : Nat) : (purge S m).length ≤ S.length := Nat.le_trans (List.length_filter_le _ _) (cnt_le S)
theorem tadd_inv {T : Tb} (h : TInv T) {v : Vl} (hv : validB v = true) : TInv (tadd T v) := by
  obtain ⟨a, b⟩ := grow_inv h.rest (T.rest.length + 2) T.list v h.list h.last hv
  refine ⟨?_, a, b⟩
  show OInv (if _ then _ else _)
  split
  · exact purge_inv h.rest _
  · exact h.rest
theorem tset_inv {T : Tb} (h : TInv T) (k v : Vl) : TInv (tset T k v) := by
  unfold tset
  split
  · exact h
  split
  · exact h
  rename_i hv
  have hv' : validB v = true := by simpa using hv
  split
  · refine ⟨h.rest, fun x hx => ?_, shr_last _⟩
    rcases List.mem_or_eq_of_mem_set (shr_mem hx) with hx | rfl
    · exact h.list x hx
    · exact hv'
  split
  · exact tadd_inv h hv'
  · exact ⟨osetL_inv h.rest k v, h.list, h.last⟩
/-- How long a table gets. -/
theorem tset_len {T : Tb} (h : TInv T) (k v : Vl) : (tset T k v).rest.length ≤ T.rest.length + 1 ∧ (tset T k v).list.length ≤ T.list.length + T.rest.length + 1 := by
  unfold tset
  split
  · exact ⟨by omega, by omega⟩
  split
  · exact ⟨by omega, by omega⟩
  split
  · refine ⟨by show T.rest.length ≤ _; omega, ?_⟩
    have := shr_len (T.list.set (whole k - 1).toNat v)
    rw [List.length_set] at this
    show (shr _).length ≤ _; omega
  split
  · constructor
    · show (if _ then _ else _ : List Slt).length ≤ _
      split
      · have := purge_len T.rest (grow T.rest (T.rest.length + 2) T.list v).length; omega
      · omega
    · have := grow_len h.rest (T.rest.length + 2) T.list v
      have h2 := more_le T.rest (T.list.length + 1)
      show (grow _ _ _ _).length ≤ _
      unfold mu at this
      split at this <;> omega
  · exact ⟨osetL_len _ _ _, by show T.list.length ≤ _; omega⟩
/-! ### What the calls give -/
theorem okeys_get {S : List Slt} {n : Nat} {y : Vl} (h : (okeys S)[n]? = some y) : ∃ s, (live S)[n]? = some s ∧ y = s.key := by
  unfold okeys at h
  rw [List.getElem?_map] at h
  cases hs : (live S)[n]? with
  | none => rw [hs] at h; cases h
  | some s => rw [hs] at h; injection h with h; exact ⟨s, rfl, h.symm⟩
def isIntB (k : Vl) : Bool := decide (k.kind = 2) && (decide (k.q = 1) && validB k)
theorem int_cases (k : Vl) : (isIntB k = true ∧ k.p = whole k ∧ validB k = true) ∨ (isIntB k = false ∧ whole k = 0) := by
  unfold isIntB whole
  by_cases h1 : k.kind = 2 <;> by_cases h2 : k.q = 1 <;> cases h3 : validB k <;> simp [h1, h2]
theorem tget_bad {T : Tb} {k : Vl} (h : validB k = false) : tget T k = zVl := by unfold tget; rw [if_pos h]
theorem tget_in {T : Tb} {k y : Vl} (hv : validB k = true) (h1 : 1 ≤ whole k) (h2 : whole k ≤ (T.list.length : Int)) (hy : T.list[(whole k - 1).toNat]? = some y) : tget T k = y := by
  unfold tget; rw [if_neg (by rw [hv]; decide), if_pos (inB_iff.2 ⟨h1, h2⟩), hy]; rfl
theorem inB_false {n : Int} {m : Nat} (h : ¬ (1 ≤ n ∧ n ≤ (m : Int))) : inB n m = false := by
  cases hb : inB n m with
  | false => rfl
  | true => exact absurd (inB_iff.1 hb) h
theorem tget_out {T : Tb} {k : Vl} (hv : validB k = true) (h : ¬ (1 ≤ whole k ∧ whole k ≤ (T.list.length : Int))) : tget T k = oget T.rest k := by
  unfold tget; rw [if_neg (by rw [hv]; decide), if_neg (by rw [inB_false h]; decide)]
theorem tset_bad {T : Tb} {k v : Vl} (h : okKey k = false ∨ validB v = false) : tset T k v = T := by
  unfold tset
  rcases h with h | h
  · rw [if_pos h]
  · rw [if_pos h]; split <;> rfl
theorem tset_in {T : Tb} {k v : Vl} (hk : okKey k = true) (hv : validB v = true) (h1 : 1 ≤ whole k) (h2 : whole k ≤ (T.list.length : Int)) : tset T k v = ⟨shr (T.list.set (whole k - 1).toNat v), T.rest⟩ := by
  unfold tset; rw [if_neg (by rw [hk]; decide), if_neg (by rw [hv]; decide), if_pos (inB_iff.2 ⟨h1, h2⟩)]
theorem tset_add {T : Tb} {k v : Vl} (hk : okKey k = true) (hv : validB v = true) (h1 : whole k = (T.list.length : Int) + 1) (h2 : v.kind ≠ 0) : tset T k v = tadd T v := by
  unfold tset; rw [if_neg (by rw [hk]; decide), if_neg (by rw [hv]; decide), if_neg (by rw [inB_false (by omega)]; decide), if_pos ⟨h1, h2⟩]
theorem tset_out {T : Tb} {k v : Vl} (hk : okKey k = true) (hv : validB v = true) (h : ¬ (1 ≤ whole k ∧ whole k ≤ (T.list.length : Int))) (h2 : ¬ (whole k = (T.list.length : Int) + 1 ∧ v.kind ≠ 0)) : tset T k v = ⟨T.list, osetL T.rest k v⟩ := by
  unfold tset; rw [if_neg (by rw [hk]; decide), if_neg (by rw [hv]; decide), if_neg (by rw [inB_false h]; decide), if_neg h2]
/-- No value nil at the end: nothing is cut. -/
theorem shr_set {L : List Vl} (h : ∀ v, L.getLast? = some v → v.kind ≠ 0) {i : Nat} {v : Vl} (hi : i + 1 ≠ L.length) : shr (L.set i v) = L.set i v := by
  refine shr_id fun x hx => h x ?_
  rw [List.getLast?_eq_getElem?, List.length_set] at hx
  rw [List.getLast?_eq_getElem?]
  by_cases h0 : i = L.length - 1
  · rw [List.set_eq_of_length_le (by omega)] at hx; exact hx
  · rw [List.getElem?_set_ne h0] at hx; exact hx
/-! ### The loop that adds -/
theorem hasK_iff (S : List Slt) (k : Vl) : (onext S k).2.2.2 = (if hasK S k = true then 0 else 13) := by
  unfold onext hasK
  by_cases h : k = zVl
  · simp [h]
  · rw [if_neg h]
    cases lastAt S k <;> simp [h]
theorem staleB_snoc (S : List Slt) {n m : Nat} (h : n ≤ m) : staleB S n (m + 1) = (staleB S n m || hasK S (ofI ((m : Int) + 1))) := by
  unfold staleB
  rw [show m + 1 - n = (m - n) + 1 by omega, List.range'_concat, List.any_append]
  simp only [List.any_cons, List.any_nil, Bool.or_false, Nat.one_mul]
  rw [show n + 1 + (m - n) = m + 1 by omega]; rfl
theorem staleB_self (S : List Slt) (n : Nat) : staleB S n n = false := by unfold staleB; simp
/-- A round of the loop. -/
theorem grow_step (S : List Slt) {f : Nat} (L : List Vl) {v : Vl} (h0 : v.kind ≠ 0) (hf : mu S L.length v ≤ f) : ∃ f', f = f' + 1 ∧ grow S f L v = grow S f' (L ++ [v]) (oget S (ofI ((L.length : Int) + 2))) := by
  cases f with
  | zero => unfold mu at hf; rw [if_neg h0] at hf; omega
  | succ f' => refine ⟨f', rfl, ?_⟩; rw [grow, if_neg h0]
theorem grow_stop (S : List Slt) {f : Nat} (L : List Vl) {v : Vl} (h0 : v.kind = 0) : grow S f L v = L := by
  cases f with
  | zero => rfl
  | succ f' => rw [grow, if_pos h0]
/-- The new map part: the keys that are left are set in order. -/
def purgeS (S : List Slt) (m i : Nat) : List Slt := ((live S).take i).filter fun s => !inB (whole s.key) m
theorem purge_step {S : List Slt} (h : OInv S) {m i : Nat} {s : Slt} (hs : (live S)[i]? = some s) : (inB (whole s.key) m = false → osetL (purgeS S m i) s.key (oget S s.key) = purgeS S m (i + 1)) ∧ (inB (whole s.key) m = true → purgeS S m i = purgeS S m (i + 1)) := by
  have hm := List.mem_of_getElem? hs
  have hg := live_gone hm
  have hl := live_inv h
  have hmS : s ∈ S := (List.mem_filter.1 hm).1
  have hval : oget S s.key = s.val := by
    obtain ⟨j, hj⟩ := List.mem_iff_getElem?.1 hmS
    exact oget_some (h.last hj hg) hj
  have e1 : purgeS S m (i + 1) = purgeS S m i ++ (if inB (whole s.key) m = true then [] else [s]) := by
    unfold purgeS
    rw [List.take_add_one, hs, List.filter_append]
    congr 1
    by_cases hb : inB (whole s.key) m = true <;> simp [hb]
  constructor
  · intro hb
    rw [e1, hb, hval]
    have hno : ∀ t ∈ purgeS S m i, t.key ≠ s.key := fun t ht e => by
      unfold purgeS at ht
      have ht' := (List.mem_filter.1 ht).1
      obtain ⟨j, hj⟩ := List.mem_iff_getElem?.1 ht'
      rw [List.getElem?_take] at hj
      split at hj
      · rename_i hji
        obtain ⟨hj1, e2⟩ := List.getElem?_eq_some_iff.1 hj
        obtain ⟨hi1, e3⟩ := List.getElem?_eq_some_iff.1 hs
        have := List.pairwise_iff_getElem.1 hl.uniq j i hj1 hi1 hji (by rw [e2, e3, e])
        rw [e2, live_gone (List.mem_of_getElem? hj)] at this; cases this
      · cases hj
    have hallive : live (purgeS S m i) = purgeS S m i := by
      unfold live
      rw [List.filter_eq_self]
      intro t ht
      have := live_gone (List.mem_of_mem_take (List.mem_filter.1 ht).1)
      simp [this]
    obtain ⟨hk1, hk2⟩ := h.keys s hmS
    obtain ⟨hv1, hv2⟩ := h.vals s hmS hg
    unfold osetL
    rw [if_neg (by rw [okKey_iff.2 ⟨hk1, hk2⟩]; decide), if_neg (by rw [hv1]; decide), if_neg hv2, thereAt_none (lastAt_nokey hno)]
    show (if _ then _ else _) ++ _ = _
    unfold cnt
    rw [hallive, if_neg (by omega)]
    simp
    cases s
    simp at hg
    subst hg
    rfl
  · intro hb
    rw [e1, hb]; simp
theorem purge_end (S : List Slt) (m i : Nat) (h : (live S).length ≤ i) : purgeS S m i = purge S m := by
  unfold purgeS purge; rw [List.take_of_length_le h]
end Go.Proofs.Ytplkkhpokodbmaa
