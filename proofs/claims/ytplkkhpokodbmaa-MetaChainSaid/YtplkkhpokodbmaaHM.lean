/-
  Plain facts of heaps (layer 14): what their calls answer. No program in sight.
-/
import Derived.Test.YtplkkhpokodbmaaTM
set_option linter.unusedSimpArgs false
set_option linter.unusedVariables false
namespace Go.Proofs.Ytplkkhpokodbmaa
structure Hob where
  kind : Int
  tag : Int
  name : ByteArray
  tab : Tb
  mt : Vl
  vals : List Vl
  deriving DecidableEq
structure Hst where
  objs : List (Option Hob)
  tch : List Bool
  deriving DecidableEq
def noTb : Tb := ⟨[], []⟩
def hp0 : Hst := ⟨[], []⟩
def refV (kind id : Int) : Vl := ⟨kind, 0, 0, ByteArray.empty, id⟩
def strV (s : ByteArray) : Vl := ⟨3, 0, 0, s, 0⟩
def Hst.get (st : Hst) (id : Int) : Option Hob := if 1 ≤ id then (st.objs[id.toNat - 1]?).bind (fun x => x) else none
def Hst.put (st : Hst) (id : Int) (o : Hob) : Hst := { st with objs := st.objs.set (id.toNat - 1) (some o) }
def Hst.touch (st : Hst) (id : Int) : Hst := { st with tch := st.tch.set (id.toNat - 1) true }
def Hst.count (st : Hst) : Nat := st.objs.countP Option.isSome
def isRef (k : Int) : Bool := decide (k = 4) || (decide (k = 5) || (decide (k = 7) || decide (k = 8)))
def hfind (st : Hst) (v : Vl) : Option Hob := (st.get v.ref).bind fun o => if o.kind = v.kind then some o else none
/-- The value denotes a table. -/
def htab (st : Hst) (v : Vl) : Option Tb := (hfind st v).bind fun o => if o.kind = 4 then some o.tab else none
def newO (kind tag : Int) (name : ByteArray) (vals : List Vl) : Hob := ⟨kind, tag, name, noTb, zVl, vals⟩
def hmakeV (st : Hst) (kind : Int) : Vl := if 65536 ≤ st.count then zVl else refV kind ((st.objs.length : Int) + 1)
def hmakeE (st : Hst) : Int := if 65536 ≤ st.count then 17 else 0
def hmake (st : Hst) (o : Hob) : Hst := if 65536 ≤ st.count then st else ⟨st.objs ++ [some o], st.tch ++ [true]⟩
def elemE (v : Vl) : Int := if v.kind = 3 ∧ 4096 < (v.str.size : Int) then 14 else if validB v = false then 2 else 0
def hgetV (st : Hst) (t k : Vl) : Vl := match htab st t with
  | some T => tget T k
  | none => zVl
def hgetE (st : Hst) (t : Vl) : Int := if (htab st t).isSome then 0 else 8
def hsetE (st : Hst) (t k v : Vl) : Int := match htab st t with
  | none => 8
  | some T => if okKey k = false then 13 else elemE v
def Hst.setTab (st : Hst) (id : Int) (T : Tb) : Hst := match st.get id with
  | some o => st.put id { o with tab := T }
  | none => st
def hset (st : Hst) (t k v : Vl) : Hst := match htab st t with
  | none => st
  | some T => if okKey k = false then st else if elemE v ≠ 0 then st else (st.setTab t.ref (tset T k v)).touch t.ref
def hmeta (st : Hst) (v : Vl) : Vl := match hfind st v with
  | some o => o.mt
  | none => zVl
def hmetaOk (st : Hst) (v m : Vl) : Bool := match hfind st v with
  | some o => (decide (o.kind = 4) || decide (o.kind = 8)) && (decide (m = zVl) || (htab st m).isSome)
  | none => false
def hsetMetaE (st : Hst) (v m : Vl) : Int := if hmetaOk st v m = true then 0 else 8
def Hst.setMt (st : Hst) (id : Int) (m : Vl) : Hst := match st.get id with
  | some o => st.put id { o with mt := m }
  | none => st
def hsetMeta (st : Hst) (v m : Vl) : Hst := if hmetaOk st v m = true then (st.setMt v.ref m).touch v.ref else st
/-- An object as the calls leave it. -/
structure ObInv (o : Hob) : Prop where
  kind : isRef o.kind = true
  tab : TInv o.tab
  mt : o.kind ≠ 4 → o.kind ≠ 8 → o.mt = zVl
structure HInv (st : Hst) : Prop where
  obs : ∀ o, some o ∈ st.objs → ObInv o
  tch : st.tch.length = st.objs.length
/-- How large a heap is after n calls. -/
structure HSm (n : Nat) (st : Hst) : Prop where
  len : st.objs.length ≤ n
  obs : ∀ o, some o ∈ st.objs → o.tab.rest.length ≤ n ∧ o.tab.list.length ≤ n * (n + 1) ∧ o.vals.length ≤ n + 20
theorem HInv.nil : HInv hp0 := ⟨fun _ h => (by cases h), rfl⟩
theorem HSm.nil : HSm 0 hp0 := ⟨Nat.le_refl _, fun _ h => (by cases h)⟩
theorem HSm.mono {n m : Nat} {st : Hst} (h : HSm n st) (hnm : n ≤ m) : HSm m st := ⟨Nat.le_trans h.len hnm, fun o ho => by
  obtain ⟨a, b, c⟩ := h.obs o ho
  have : n * (n + 1) ≤ m * (m + 1) := Nat.mul_le_mul hnm (by omega)
  exact ⟨by omega, by omega, by omega⟩⟩
theorem get_mem {st : Hst} {id : Int} {o : Hob} (h : st.get id = some o) : some o ∈ st.objs ∧ 1 ≤ id ∧ id ≤ st.objs.length ∧ st.objs[id.toNat - 1]? = some (some o) := by
  unfold Hst.get at h
  split at h
  · rename_i h1
    cases hx : st.objs[id.toNat - 1]? with
    | none => rw [hx] at h; cases h
    | some x =>
      rw [hx] at h
      simp at h
      subst h
      have := (List.getElem?_eq_some_iff.1 hx).1
      exact ⟨List.mem_of_getElem? hx, h1, by omega, rfl⟩
  · cases h
theorem hfind_some {st : Hst} {v : Vl} {o : Hob} (h : hfind st v = some o) : st.get v.ref = some o ∧ o.kind = v.kind := by
  unfold hfind at h
  cases hg : st.get v.ref with
  | none => rw [hg] at h; cases h
  | some x =>
    rw [hg] at h
    simp only [Option.bind_some] at h
    split at h
    · injection h with e; subst e; exact ⟨rfl, by assumption⟩
    · cases h
theorem hfind_is {st : Hst} {v : Vl} {o : Hob} (h : st.get v.ref = some o) (hk : o.kind = v.kind) : hfind st v = some o := by unfold hfind; rw [h]; simp [hk]
theorem hfind_kind {st : Hst} {v : Vl} {o : Hob} (h : st.get v.ref = some o) (hk : o.kind ≠ v.kind) : hfind st v = none := by unfold hfind; rw [h]; simp [hk]
theorem hfind_none {st : Hst} {v : Vl} (h : st.get v.ref = none) : hfind st v = none := by unfold hfind; rw [h]; rfl
theorem htab_some {st : Hst} {v : Vl} {T : Tb} (h : htab st v = some T) : ∃ o, hfind st v = some o ∧ st.get v.ref = some o ∧ o.kind = 4 ∧ v.kind = 4 ∧ o.tab = T := by
  unfold htab at h
  cases hf : hfind st v with
  | none => rw [hf] at h; cases h
  | some o =>
    rw [hf] at h
    simp only [Option.bind_some] at h
    split at h
    · rename_i h4
      obtain ⟨a, b⟩ := hfind_some hf
      injection h with e
      exact ⟨o, rfl, a, h4, by omega, e⟩
    · cases h
theorem htab_is {st : Hst} {v : Vl} {o : Hob} (h : hfind st v = some o) (h4 : o.kind = 4) : htab st v = some o.tab := by unfold htab; rw [h]; simp [h4]
theorem htab_not {st : Hst} {v : Vl} {o : Hob} (h : hfind st v = some o) (h4 : o.kind ≠ 4) : htab st v = none := by unfold htab; rw [h]; simp [h4]
theorem htab_none {st : Hst} {v : Vl} (h : hfind st v = none) : htab st v = none := by unfold htab; rw [h]; rfl
theorem get_put {st : Hst} {id : Int} {o o' : Hob} (h : st.get id = some o) (id' : Int) : (st.put id o').get id' = if id' = id then some o' else st.get id' := by
  obtain ⟨_, h1, h2, h3⟩ := get_mem h
  unfold Hst.get Hst.put
  by_cases e : id' = id
  · subst e
    rw [if_pos h1, if_pos rfl, List.getElem?_set_self (by omega)]; rfl
  · rw [if_neg e]
    by_cases hp : 1 ≤ id'
    · rw [if_pos hp, if_pos hp, List.getElem?_set_ne (by omega)]
    · rw [if_neg hp, if_neg hp]
theorem get_touch (st : Hst) (i id : Int) : (st.touch i).get id = st.get id := rfl
theorem mem_put {st : Hst} {id : Int} {o x : Hob} (h : some x ∈ (st.put id o).objs) : some x ∈ st.objs ∨ x = o := by
  rcases List.mem_or_eq_of_mem_set h with h | h
  · exact .inl h
  · exact .inr (Option.some.inj h)
theorem put_inv {st : Hst} (h : HInv st) {id : Int} {o : Hob} (ho : ObInv o) : HInv (st.put id o) := by
  refine ⟨fun x hx => ?_, ?_⟩
  · rcases mem_put hx with hx | rfl
    · exact h.obs x hx
    · exact ho
  · unfold Hst.put; simp only [List.length_set]; exact h.tch
theorem touch_inv {st : Hst} (h : HInv st) (id : Int) : HInv (st.touch id) := by
  refine ⟨h.obs, ?_⟩
  unfold Hst.touch; simp only [List.length_set]; exact h.tch
theorem hset_cases (st : Hst) (t k v : Vl) : (htab st t = none ∧ hset st t k v = st ∧ hsetE st t k v = 8) ∨ (∃ T, htab st t = some T ∧ okKey k = false ∧ hset st t k v = st ∧ hsetE st t k v = 13) ∨ (∃ T, htab st t = some T ∧ okKey k = true ∧ elemE v ≠ 0 ∧ hset st t k v = st ∧ hsetE st t k v = elemE v) ∨
    ∃ T o, htab st t = some T ∧ okKey k = true ∧ elemE v = 0 ∧ validB v = true ∧ st.get t.ref = some o ∧ o.kind = 4 ∧ t.kind = 4 ∧ o.tab = T ∧ hset st t k v = (st.put t.ref { o with tab := tset T k v }).touch t.ref ∧ hsetE st t k v = 0 := by
  unfold hset hsetE
  cases hT : htab st t with
  | none => exact .inl ⟨rfl, rfl, rfl⟩
  | some T =>
    simp only
    cases hk : okKey k with
    | false => exact .inr (.inl ⟨T, rfl, rfl, by simp, by simp⟩)
    | true =>
      by_cases he : elemE v = 0
      · obtain ⟨o, h1, h2, h3, h4, h5⟩ := htab_some hT
        refine .inr (.inr (.inr ⟨T, o, rfl, rfl, he, ?_, h2, h3, h4, h5, ?_, ?_⟩))
        · unfold elemE at he
          split at he
          · cases he
          · split at he
            · cases he
            · rename_i hv; simpa using hv
        · unfold Hst.setTab; rw [h2]; simp [he]
        · simp [he]
      · exact .inr (.inr (.inl ⟨T, rfl, rfl, he, by simp [he], by simp⟩))
theorem hset_inv {st : Hst} (h : HInv st) (t k v : Vl) : HInv (hset st t k v) := by
  rcases hset_cases st t k v with ⟨_, e, _⟩ | ⟨_, _, _, e, _⟩ | ⟨_, _, _, _, e, _⟩ | ⟨T, o, h1, h2, h3, hv, h4, h5, h6, h7, e, _⟩
  · rw [e]; exact h
  · rw [e]; exact h
  · rw [e]; exact h
  · rw [e]
    have ho := h.obs o (get_mem h4).1
    refine touch_inv (put_inv h (o := { o with tab := tset T k v }) ⟨ho.kind, ?_, ho.mt⟩) _
    rw [← h7]; exact tset_inv ho.tab k v
theorem hset_sm {n : Nat} {st : Hst} (hi : HInv st) (h : HSm n st) (t k v : Vl) : HSm (n + 1) (hset st t k v) := by
  rcases hset_cases st t k v with ⟨_, e, _⟩ | ⟨_, _, _, e, _⟩ | ⟨_, _, _, _, e, _⟩ | ⟨T, o, h1, h2, h3, hv, h4, h5, h6, h7, e, _⟩
  · rw [e]; exact h.mono (by omega)
  · rw [e]; exact h.mono (by omega)
  · rw [e]; exact h.mono (by omega)
  · rw [e]
    have hm := h.mono (Nat.le_succ n)
    have ho := h.obs o (get_mem h4).1
    have hl := tset_len (hi.obs o (get_mem h4).1).tab k v
    refine ⟨by show (st.objs.set _ _).length ≤ _; rw [List.length_set]; exact hm.len, fun x hx => ?_⟩
    rcases mem_put hx with hx | rfl
    · exact hm.obs x hx
    · have : (n + 1) * (n + 1 + 1) = n * (n + 1) + 2 * (n + 1) := by simp only [Nat.add_mul, Nat.mul_add]; omega
      rw [← h7]
      exact ⟨by show (tset o.tab k v).rest.length ≤ _; omega, by show (tset o.tab k v).list.length ≤ _; omega, by show o.vals.length ≤ _; omega⟩
theorem hmake_inv {st : Hst} (h : HInv st) {o : Hob} (ho : ObInv o) : HInv (hmake st o) := by
  unfold hmake
  split
  · exact h
  · refine ⟨fun x hx => ?_, by simp [h.tch]⟩
    rcases List.mem_append.1 hx with hx | hx
    · exact h.obs x hx
    · rw [List.mem_singleton] at hx; injection hx with hx; rw [hx]; exact ho
theorem hmake_sm {n : Nat} {st : Hst} (h : HSm n st) {o : Hob} (h1 : o.tab = noTb) (h2 : o.vals.length ≤ 20) : HSm (n + 1) (hmake st o) := by
  have hm := h.mono (Nat.le_succ n)
  unfold hmake
  split
  · exact hm
  · refine ⟨by simp; exact h.len, fun x hx => ?_⟩
    rcases List.mem_append.1 hx with hx | hx
    · exact hm.obs x hx
    · rw [List.mem_singleton] at hx; injection hx with hx; rw [hx, h1]
      exact ⟨Nat.zero_le _, Nat.zero_le _, by omega⟩
theorem newO_inv {kind : Int} (tag : Int) (name : ByteArray) (vals : List Vl) (hk : isRef kind = true) : ObInv (newO kind tag name vals) := ⟨hk, TInv.nil, fun _ _ => rfl⟩
theorem hsetMeta_cases (st : Hst) (v m : Vl) : (hsetMeta st v m = st ∧ hsetMetaE st v m = 8 ∧ hmetaOk st v m = false) ∨ ∃ o, st.get v.ref = some o ∧ o.kind = v.kind ∧ (o.kind = 4 ∨ o.kind = 8) ∧ hsetMeta st v m = (st.put v.ref { o with mt := m }).touch v.ref ∧ hsetMetaE st v m = 0 ∧ hmetaOk st v m = true := by
  unfold hsetMeta hsetMetaE
  cases hb : hmetaOk st v m with
  | false => exact .inl ⟨rfl, rfl, rfl⟩
  | true =>
    unfold hmetaOk at hb
    cases hf : hfind st v with
    | none => rw [hf] at hb; cases hb
    | some o =>
      rw [hf] at hb
      obtain ⟨h1, h2⟩ := hfind_some hf
      simp only [Bool.and_eq_true, Bool.or_eq_true, decide_eq_true_eq] at hb
      refine .inr ⟨o, h1, h2, hb.1, ?_, rfl, rfl⟩
      unfold Hst.setMt; rw [h1]; rfl
theorem hsetMeta_inv {st : Hst} (h : HInv st) (v m : Vl) : HInv (hsetMeta st v m) := by
  rcases hsetMeta_cases st v m with ⟨e, _⟩ | ⟨o, h1, _, h2, e, _⟩
  · rw [e]; exact h
  · rw [e]
    have ho := h.obs o (get_mem h1).1
    exact touch_inv (put_inv h (o := { o with mt := m }) ⟨ho.kind, ho.tab, fun a b => by rcases h2 with h | h <;> contradiction⟩) _
theorem hsetMeta_sm {n : Nat} {st : Hst} (h : HSm n st) (v m : Vl) : HSm (n + 1) (hsetMeta st v m) := by
  rcases hsetMeta_cases st v m with ⟨e, _⟩ | ⟨o, h1, _, h2, e, _⟩
  · rw [e]; exact h.mono (by omega)
  · rw [e]
    have hm := h.mono (Nat.le_succ n)
    refine ⟨by show (st.objs.set _ _).length ≤ _; rw [List.length_set]; exact hm.len, fun x hx => ?_⟩
    rcases mem_put hx with hx | rfl
    · exact hm.obs x hx
    · exact hm.obs o (get_mem h1).1
/-! ### Objects beside a map of their places -/
def ob0 : Hob := ⟨0, 0, ByteArray.empty, noTb, zVl, []⟩
def Hst.ob (st : Hst) (id : Int) : Hob := (st.get id).getD ob0
theorem ob_get {st : Hst} {id : Int} {o : Hob} (h : st.get id = some o) : st.ob id = o := by unfold Hst.ob; rw [h]; rfl
theorem get_end (st : Hst) : st.get ((st.objs.length : Int) + 1) = none := by
  unfold Hst.get
  rw [if_pos (by omega), show ((st.objs.length : Int) + 1).toNat - 1 = st.objs.length by omega, List.getElem?_eq_none (Nat.le_refl _)]; rfl
theorem get_snoc (st : Hst) (o : Hob) (tch : List Bool) (id : Int) : Hst.get ⟨st.objs ++ [some o], tch⟩ id = if id = (st.objs.length : Int) + 1 then some o else st.get id := by
  unfold Hst.get
  by_cases h : id = (st.objs.length : Int) + 1
  · subst h
    rw [if_pos rfl, if_pos (by omega)]
    show ((st.objs ++ [some o])[_]?).bind _ = _
    rw [show ((st.objs.length : Int) + 1).toNat - 1 = st.objs.length by omega, List.getElem?_append_right (Nat.le_refl _)]; simp
  · rw [if_neg h]
    by_cases hp : 1 ≤ id
    · rw [if_pos hp, if_pos hp]
      show ((st.objs ++ [some o])[_]?).bind _ = _
      by_cases hl : id.toNat - 1 < st.objs.length
      · rw [List.getElem?_append_left hl]
      · rw [List.getElem?_eq_none (by simp; omega), List.getElem?_eq_none (by omega)]
    · rw [if_neg hp, if_neg hp]
theorem count_snoc (st : Hst) (o : Hob) (tch : List Bool) : Hst.count ⟨st.objs ++ [some o], tch⟩ = st.count + 1 := by unfold Hst.count; simp
theorem countP_set {α : Type} {p : α → Bool} : ∀ (l : List α) {i : Nat} {x y : α}, l[i]? = some x → p x = p y → (l.set i y).countP p = l.countP p
  | [], _, _, _, h, _ => by cases h
  | a :: r, 0, x, y, h, e => by
    simp only [List.getElem?_cons_zero, Option.some.injEq] at h
    subst h; simp [List.countP_cons, e]
  | a :: r, i + 1, x, y, h, e => by
    simp only [List.getElem?_cons_succ] at h
    simp [List.countP_cons, countP_set r h e]
theorem count_put {st : Hst} {id : Int} {o o' : Hob} (h : st.get id = some o) : (st.put id o').count = st.count := by
  obtain ⟨_, h1, h2, h3⟩ := get_mem h
  exact countP_set _ h3 rfl
end Go.Proofs.Ytplkkhpokodbmaa
