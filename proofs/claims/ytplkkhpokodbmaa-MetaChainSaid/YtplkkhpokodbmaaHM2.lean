/-
  Heaps beside the map of their objects: what look-ups find. No program in sight.
-/
import Derived.Test.YtplkkhpokodbmaaHM
import Derived.Test.YtplkkhpokodbmaaOM2
set_option linter.unusedSimpArgs false
set_option linter.unusedVariables false
namespace Go.Proofs.Ytplkkhpokodbmaa
open Go.S Go.J Go.Hp
open Go.Mem (aget aset adel apos aget_aset aget_adel)
/-- The map of objects: where each lies (its block, the block of its table). -/
structure HA (ps : List (Int × (Nat × Nat))) (st : Hst) : Prop where
  has : ∀ id, (aget ps id).isSome = (st.get id).isSome
  len : ps.length = st.count
def TA (tm : List (Int × Bool)) (st : Hst) : Prop := ∀ id o, st.get id = some o → (aget tm id).isSome = (st.tch[id.toNat - 1]?).getD false
abbrev ptrV (g : Nat) : Value := .pointer (some ⟨g, 0, none⟩)
def fndV (ps : List (Int × (Nat × Nat))) (st : Hst) (v : Vl) : Value := match hfind st v, aget ps v.ref with
  | some _, some q => ptrV q.1
  | _, _ => .pointer none
def tabV (q : Nat × Nat) (o : Hob) : Value := if o.kind = 4 then ptrV q.2 else .pointer none
def tbV (ps : List (Int × (Nat × Nat))) (st : Hst) (v : Vl) : Value := match hfind st v, aget ps v.ref with
  | some o, some q => tabV q o
  | _, _ => .pointer none
theorem get_cases {ps : List (Int × (Nat × Nat))} {st : Hst} (h : HA ps st) (id : Int) : (st.get id = none ∧ aget ps id = none) ∨ ∃ o q, st.get id = some o ∧ aget ps id = some q := by
  have := h.has id
  cases h1 : st.get id with
  | none => rw [h1] at this; exact .inl ⟨rfl, by cases h2 : aget ps id with | none => rfl | some q => rw [h2] at this; cases this⟩
  | some o => rw [h1] at this; exact .inr (by cases h2 : aget ps id with | none => rw [h2] at this; cases this | some q => exact ⟨o, q, rfl, rfl⟩)
theorem fnd_cases {ps : List (Int × (Nat × Nat))} {st : Hst} (h : HA ps st) (v : Vl) : (hfind st v = none ∧ htab st v = none ∧ fndV ps st v = .pointer none ∧ tbV ps st v = .pointer none) ∨ ∃ o q, hfind st v = some o ∧ st.get v.ref = some o ∧ o.kind = v.kind ∧ aget ps v.ref = some q ∧ fndV ps st v = ptrV q.1 ∧ tbV ps st v = tabV q o := by
  cases hf : hfind st v with
  | none => exact .inl ⟨rfl, htab_none hf, by unfold fndV; rw [hf], by unfold tbV; rw [hf]⟩
  | some o =>
    obtain ⟨h1, h2⟩ := hfind_some hf
    rcases get_cases h v.ref with ⟨h3, _⟩ | ⟨o', q, h3, h4⟩
    · rw [h1] at h3; cases h3
    · exact .inr ⟨o, q, rfl, h1, h2, h4, by unfold fndV; rw [hf, h4], by unfold tbV; rw [hf, h4]⟩
theorem tb_cases {ps : List (Int × (Nat × Nat))} {st : Hst} (h : HA ps st) (v : Vl) : (htab st v = none ∧ tbV ps st v = .pointer none) ∨ ∃ o q, htab st v = some o.tab ∧ st.get v.ref = some o ∧ o.kind = 4 ∧ v.kind = 4 ∧ aget ps v.ref = some q ∧ tbV ps st v = ptrV q.2 := by
  rcases fnd_cases h v with ⟨h1, h2, h3, h4⟩ | ⟨o, q, h1, h2, h3, h4, h5, h6⟩
  · exact .inl ⟨h2, h4⟩
  · by_cases hk : o.kind = 4
    · exact .inr ⟨o, q, htab_is h1 hk, h2, hk, by omega, h4, by rw [h6]; unfold tabV; rw [if_pos hk]⟩
    · exact .inl ⟨htab_not h1 hk, by rw [h6]; unfold tabV; rw [if_neg hk]⟩
theorem HA.nil : HA [] hp0 := ⟨fun id => by unfold Hst.get hp0; by_cases h : 1 ≤ id <;> simp [h, aget], rfl⟩
theorem TA.nil : TA [] hp0 := fun id o h => by
  have := (get_mem h).1
  cases this
theorem HA.put {ps : List (Int × (Nat × Nat))} {st : Hst} (h : HA ps st) {id : Int} {o o' : Hob} (hg : st.get id = some o) : HA ps (st.put id o') := by
  refine ⟨fun id' => ?_, by rw [h.len, count_put hg]⟩
  rw [h.has, get_put hg]
  by_cases e : id' = id
  · subst e; rw [hg, if_pos rfl]; rfl
  · rw [if_neg e]
theorem HA.touch {ps : List (Int × (Nat × Nat))} {st : Hst} (h : HA ps st) (id : Int) : HA ps (st.touch id) := ⟨h.has, h.len⟩
theorem TA.put {tm : List (Int × Bool)} {st : Hst} (h : TA tm st) {id : Int} {o o' : Hob} (hg : st.get id = some o) : TA tm (st.put id o') := fun id' x hx => by
  rw [get_put hg] at hx
  show _ = (st.tch[_]?).getD false
  by_cases e : id' = id
  · subst e; exact h id' o hg
  · rw [if_neg e] at hx; exact h id' x hx
theorem TA.touch {tm : List (Int × Bool)} {st : Hst} (h : TA tm st) (hi : HInv st) {id : Int} {o : Hob} (hg : st.get id = some o) : TA (aset tm id true) (st.touch id) := fun id' x hx => by
  obtain ⟨_, h1, h2, _⟩ := get_mem hg
  obtain ⟨_, h3, h4, _⟩ := get_mem (show st.get id' = some x from hx)
  have ht := hi.tch
  show _ = ((st.tch.set _ true)[_]?).getD false
  rw [aget_aset]
  by_cases e : id' = id
  · subst e; rw [if_pos rfl, List.getElem?_set_self (by omega)]; rfl
  · rw [if_neg e, List.getElem?_set_ne (by omega)]; exact h id' x hx
theorem HA.make {ps : List (Int × (Nat × Nat))} {st : Hst} (h : HA ps st) (o : Hob) (q : Nat × Nat) (hf : st.count < 65536) : HA (aset ps ((st.objs.length : Int) + 1) q) (hmake st o) := by
  unfold hmake
  rw [if_neg (by omega)]
  have hnone : aget ps ((st.objs.length : Int) + 1) = none := by
    have := h.has ((st.objs.length : Int) + 1)
    rw [get_end] at this
    cases hx : aget ps ((st.objs.length : Int) + 1) with
    | none => rfl
    | some q => rw [hx] at this; cases this
  refine ⟨fun id => ?_, ?_⟩
  · rw [aget_aset, get_snoc]
    by_cases e : id = (st.objs.length : Int) + 1
    · rw [if_pos e, if_pos e]; rfl
    · rw [if_neg e, if_neg e]; exact h.has id
  · rw [count_snoc, ← h.len]
    have : apos ps ((st.objs.length : Int) + 1) = none := by
      cases hp : apos ps ((st.objs.length : Int) + 1) with
      | none => rfl
      | some i => obtain ⟨_, y, _, h2⟩ := Go.Mem.apos_lt hp; rw [hnone] at h2; cases h2
    rw [Go.Mem.aset_new this]; simp
theorem TA.make {tm : List (Int × Bool)} {st : Hst} (h : TA tm st) (hi : HInv st) (o : Hob) (hf : st.count < 65536) : TA (aset tm ((st.objs.length : Int) + 1) true) (hmake st o) := fun id x hx => by
  unfold hmake at hx ⊢
  rw [if_neg (by omega)] at hx ⊢
  rw [get_snoc] at hx
  have ht := hi.tch
  show _ = ((st.tch ++ [true])[_]?).getD false
  rw [aget_aset]
  by_cases e : id = (st.objs.length : Int) + 1
  · rw [if_pos e, e, show ((st.objs.length : Int) + 1).toNat - 1 = st.objs.length by omega, List.getElem?_append_right (by omega)]; simp [ht]
  · rw [if_neg e] at hx ⊢
    obtain ⟨_, h1, h2, _⟩ := get_mem hx
    rw [List.getElem?_append_left (by omega)]; exact h id x hx
end Go.Proofs.Ytplkkhpokodbmaa
